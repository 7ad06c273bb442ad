/- Joined: Cw, Kg, Wp, Vc, Sc, Sk, Vs, Wf, Md, Tv. -/
import Derived.Deep.RegionLaw
import Derived.Deep.RegionHeld3
import Derived.BigQuiet
import Derived.Test.YtbdlpbladpppjaaGreatDoorK1
import Derived.Test.YtbdlpbladpppjaaGreatDoorK2
namespace Go.Proofs.YtbdlpbladpppjaaGreatDoor
open Go.ChangeShapes Go.WideShapes Go.ChangeAt Go.RowKit
open Rec (sz cs)
set_option linter.unusedVariables false
set_option maxRecDepth 100000

def okAt (xs : List LineD) (i : Nat) : Bool := lineV (xs.getD i noLine) && (List.range i).all fun j => !clashB (xs.getD i noLine) (xs.getD j noLine)
def cacheV (c : CacheD) : Bool := decide (1 ≤ c.lines.length ∧ c.lines.length ≤ 8 ∧ 0 ≤ c.hand ∧ c.hand < c.lines.length) && ((List.range c.lines.length).all (okAt c.lines) && c.lines.any fun x => !x.wired)

def OkUp (xs : List LineD) (k : Nat) : Prop := ∀ i x, i < k → xs[i]? = some x → lineV x = true ∧ ∀ j y, j < i → xs[j]? = some y → clashB x y = false
def looseUp (xs : List LineD) (k : Nat) : Bool := (xs.take k).any fun x => !x.wired

theorem looseUp_succ {xs : List LineD} {k : Nat} {x : LineD} (h : xs[k]? = some x) : looseUp xs (k + 1) = (looseUp xs k || !x.wired) := by
 unfold looseUp
 rw [take_succ_of h, List.any_append]
 simp

theorem getD_of {α : Type} {xs : List α} {i : Nat} {x d : α} (h : xs[i]? = some x) : xs.getD i d = x := by
 rw [List.getD_eq_getElem?_getD, h]; rfl

theorem cacheV_iff (c : CacheD) : cacheV c = true ↔ (1 ≤ c.lines.length ∧ c.lines.length ≤ 8 ∧ 0 ≤ c.hand ∧ c.hand < c.lines.length) ∧ OkUp c.lines c.lines.length ∧ looseUp c.lines c.lines.length = true := by
 unfold cacheV
 rw [Bool.and_eq_true, Bool.and_eq_true, decide_eq_true_iff]
 have h1 : ((List.range c.lines.length).all (okAt c.lines) = true) ↔ OkUp c.lines c.lines.length := by
  rw [List.all_eq_true]
  constructor
  ·intro h i x hi hx
   have := h i (List.mem_range.2 hi)
   unfold okAt at this
   rw [Bool.and_eq_true, List.all_eq_true, getD_of hx] at this
   refine ⟨this.1, fun j y hj hy => ?_⟩
   have h2 := this.2 j (List.mem_range.2 hj)
   rw [getD_of hy] at h2
   simpa using h2
  ·intro h i hi
   have hi' := List.mem_range.1 hi
   obtain ⟨x, hx⟩ : ∃ x, c.lines[i]? = some x := ⟨_, List.getElem?_eq_getElem hi'⟩
   have h2 := h i x hi' hx
   unfold okAt
   rw [Bool.and_eq_true, List.all_eq_true, getD_of hx]
   refine ⟨h2.1, fun j hj => ?_⟩
   have hj' := List.mem_range.1 hj
   obtain ⟨y, hy⟩ : ∃ y, c.lines[j]? = some y := ⟨_, List.getElem?_eq_getElem (by omega)⟩
   rw [getD_of hy, h2.2 j y hj' hy]
   rfl
 have h2 : (c.lines.any fun x => !x.wired) = looseUp c.lines c.lines.length := by
  unfold looseUp; rw [List.take_length]
 rw [h1, h2]

theorem okUp_succ {xs : List LineD} {k : Nat} {x : LineD} (h : OkUp xs k) (hx : xs[k]? = some x) (hv : lineV x = true) (hc : ∀ j y, j < k → xs[j]? = some y → clashB x y = false) : OkUp xs (k + 1) := by
 intro i z hi hz
 by_cases e : i = k
 ·subst e
  rw [hx] at hz
  injection hz with hz
  subst hz
  exact ⟨hv, hc⟩
 ·exact h i z (by omega) hz

theorem cacheV_bad_line {c : CacheD} {k : Nat} {x : LineD} (hx : c.lines[k]? = some x) (hv : lineV x = false) : cacheV c = false := by
 cases h : cacheV c
 ·rfl
 ·have := ((cacheV_iff c).1 h).2.1 k x (getElem?_lt hx) hx
  rw [hv] at this
  cases this.1
theorem cacheV_bad_clash {c : CacheD} {k j : Nat} {x y : LineD} (hx : c.lines[k]? = some x) (hy : c.lines[j]? = some y) (hj : j < k) (hv : clashB x y = true) : cacheV c = false := by
 cases h : cacheV c
 ·rfl
 ·have := (((cacheV_iff c).1 h).2.1 k x (getElem?_lt hx) hx).2 j y hj hy
  rw [hv] at this
  cases this
theorem cacheV_bad_size {c : CacheD} (h : ¬ (1 ≤ c.lines.length ∧ c.lines.length ≤ 8 ∧ 0 ≤ c.hand ∧ c.hand < c.lines.length)) : cacheV c = false := by
 cases h2 : cacheV c
 ·rfl
 ·exact absurd ((cacheV_iff c).1 h2).1 h
theorem cacheV_end {c : CacheD} (h1 : 1 ≤ c.lines.length ∧ c.lines.length ≤ 8 ∧ 0 ≤ c.hand ∧ c.hand < c.lines.length) (h2 : OkUp c.lines c.lines.length) : cacheV c = looseUp c.lines c.lines.length := by
 rw [Bool.eq_iff_iff, cacheV_iff]
 exact ⟨fun h => h.2.2, fun h => ⟨h1, h2, h⟩⟩

set_option maxHeartbeats 2000000 in
theorem cacheValidI_c (t : CacheD) (A : Option Addr) (c : Nat) (w : World) (hx : Rd w A t.lines) (hn : t.lines.length ≤ 1048576) (hc : t.lines.length ≤ c) :
  Calls Tryz.prog 25 #[.agg #[.slice A t.lines.length c, .int .i64 t.hand]] w fun r w' => r = .returned (.bool (cacheV t)) ∧ Ex w w' := by
 have B1 := zq (fun k x => @cacheV_bad_line t k x)
 have B2 := zq (fun k j x y => @cacheV_bad_clash t k j x y)
 have B3 := zq (@cacheV_bad_size t)
 have B4 := zq (@cacheV_end t)
 obtain ⟨xs, hand⟩ := t
 simp only at B1 B2 B3 B4 hx hn hc ⊢
 generalize cacheV ⟨xs, hand⟩ = res at *
 obtain ⟨n, hn1⟩ : ∃ n, n = xs.length := ⟨_, rfl⟩
 have HN := zq hn1
 rw [← hn1] at B3 B4 hn hc ⊢
 have HX := zq hx
 clear hn1 hx
 by_cases g1 : n < 1
 ·have g1' : (n : Int) < 1 := by omega
  obtain rfl : res = false := B3.out (by omega)
  go_enter Tryz.func25, Tryz.ntmps25
  go_wp2
  go_ret
  exact ⟨rfl, (Ex.refl _).alloc _⟩
 by_cases g2 : 8 < n
 ·have g2' : (8 : Int) < (n : Int) := by omega
  have g1' : ¬ (n : Int) < 1 := by omega
  obtain rfl : res = false := B3.out (by omega)
  go_enter Tryz.func25, Tryz.ntmps25
  go_wp2
  go_ret
  exact ⟨rfl, (Ex.refl _).alloc _⟩
 have g1' : ¬ (n : Int) < 1 := by omega
 have g2' : ¬ (8 : Int) < (n : Int) := by omega
 cases g3 : inB hand n
 ·have g4 := inB_false.1 g3
  obtain rfl : res = false := B3.out (by omega)
  clear g4
  go_enter Tryz.func25, Tryz.ntmps25
  go_wp2_with (go_at_call 16; refine (within_c _ _ _).mono ?_; rintro r w' ⟨rfl, rfl⟩)
  go_ret
  exact ⟨rfl, (Ex.refl _).alloc _⟩
 have g4 := inB_true.1 g3
 have HS : Hid (1 ≤ n ∧ n ≤ 8 ∧ 0 ≤ hand ∧ hand < n) := zq (by omega)
 clear g4
 go_enter Tryz.func25, Tryz.ntmps25
 go_wp2_with (go_at_call 16; refine (within_c _ _ _).mono ?_; rintro r w' ⟨rfl, rfl⟩)
 have hnc : (n : Int) ≤ (c : Int) := by omega
 obtain ⟨w0, hw0⟩ : ∃ w0 : World, w0 = w.alloc (.cells #[.slice A n c, .int .i64 hand] 29) := ⟨_, rfl⟩
 obtain ⟨gb, hgb⟩ : ∃ gb : Nat, gb = w.heap.size := ⟨_, rfl⟩
 have K0 : Hid (Blk w0 gb 29 [.slice A n c, .int .i64 hand]) := zq (by rw [hw0, hgb]; exact Blk.new w _ _)
 have E0 : Hid (Ex w w0) := zq (by rw [hw0]; exact (Ex.refl w).alloc _)
 rw [← hw0, ← hgb]
 clear hw0 hgb
 go_loopw [28, 4] (fun i l wr => ∃ k : Nat, k ≤ n ∧ i = .int .i64 k ∧ l = .bool (looseUp xs k) ∧ Ex w0 wr ∧ OkUp xs k) (fun i _ _ => n - (intOf i).toNat)
 case atStart => exact ⟨0, Nat.zero_le _, rfl, by simp [looseUp], Ex.refl _, fun i x hi => by omega⟩
 case round =>
  obtain ⟨k, hk, rfl, rfl, hbel, hok⟩ := hrel
  have HB := zq hbel
  have HOK := zq hok
  clear hbel hok
  obtain ⟨q0, q1⟩ := (K0.out.ex HB.out).c2
  have lb := (K0.out.ex HB.out).lt
  by_cases hlt : k < n
  ·obtain ⟨b1, o1, x, rfl, hb1, hxk, h0, h1, h2, h3, h4, h5⟩ := Rd.line ((HX.out.ex E0.out).ex HB.out) (k := k) (by have := HN.out; omega)
   have HXK := zq hxk
   clear hxk
   go_wp2_with fail
   refine (lineValid_c x _).mono ?_
   rintro r w2 ⟨rfl, hb2⟩
   have HB2 : Hid (Ex wr w2) := zq ((((Ex.refl wr).alloc _)).trans hb2)
   have KX : Hid (Blk w2 wr.heap.size 64 [.bool x.valid, .int .i64 x.tag, .int .i64 x.page, .int .i64 x.frame, .int .i64 x.rights, .bool x.wired]) := zq ((Blk.new_at _ _ _ rfl).ex hb2)
   clear hb2 h0 h1 h2 h3 h4 h5 q0 q1
   obtain ⟨q0, q1⟩ := ((K0.out.ex HB.out).ex HB2.out).c2
   have lb2 := ((K0.out.ex HB.out).ex HB2.out).lt
   cases hv : lineV x
   ·obtain rfl : res = false := B1.out k x HXK.out hv
    go_wp2
    go_ret
    exact ⟨rfl, (E0.out.trans HB.out).trans HB2.out⟩
   ·have HV := zq hv
    obtain ⟨gx, hgx⟩ : ∃ gx : Nat, gx = wr.heap.size := ⟨_, rfl⟩
    rw [← hgx] at KX ⊢
    clear hgx
    go_wp2_with fail
    clear hv
    have HE2 : Hid (Ex w w2) := zq ((E0.out.trans HB.out).trans HB2.out)
    have HX2 : Hid (Rd w2 (some ⟨b1, o1, none⟩) xs) := zq (HX.out.ex HE2.out)
    have KB2 : Hid (Blk w2 gb 29 [.slice (some ⟨b1, o1, none⟩) n c, .int .i64 hand]) := zq ((K0.out.ex HB.out).ex HB2.out)
    have HC : Hid (∀ (j : Nat) (y : LineD), j < 0 → xs[j]? = some y → clashB x y = false) := zq (fun j y h => by omega)
    clear q0 q1 lb2 lb
    have HW : Hid (Ex w0 w2) := zq (HB.out.trans HB2.out)
    clear HB2 HB
    go_loopw [41] (fun j wi => ∃ m : Nat, m ≤ k ∧ j = .int .i64 m ∧ Ex w2 wi ∧ ∀ (j : Nat) (y : LineD), j < m → xs[j]? = some y → clashB x y = false) (fun j _ => k - (intOf j).toNat)
    case atStart => exact ⟨0, Nat.zero_le _, rfl, Ex.refl _, HC.out⟩
    case round =>
     obtain ⟨m, hm, rfl, hbi, hcl⟩ := hrel
     have HBI := zq hbi
     have HCL := zq hcl
     clear hbi hcl
     obtain ⟨p0, p1, p2, p3, p4, p5⟩ := (KX.out.ex HBI.out).c6
     have lx := (KX.out.ex HBI.out).lt
     obtain ⟨q0, q1⟩ := (KB2.out.ex HBI.out).c2
     have lb := (KB2.out.ex HBI.out).lt
     by_cases hlm : m < k
     ·obtain ⟨y, hb1', hyk, y0, y1, y2, y3, y4, y5⟩ := Rd.line_known (HX2.out.ex HBI.out) (k := m) (by have := HN.out; omega)
      have HYK := zq hyk
      clear hyk
      go_wp2_with fail
      refine (clash_c x y _).mono ?_
      rintro r w3 ⟨rfl, hb3⟩
      have HB3 : Hid (Ex wr w3) := zq ((((Ex.refl wr).alloc _)).trans hb3)
      clear hb3 y0 y1 y2 y3 y4 y5 p0 p1 p2 p3 p4 p5 q0 q1
      cases hcy : clashB x y
      ·have HCY := zq hcy
       go_wp2
       go_roundw
       case rel => exact ⟨m + 1, by omega, by go_num, HBI.out.trans HB3.out, fun j z hj hz => by
        by_cases e : j = m
        ·subst e
         have := HYK.out
         rw [this] at hz
         injection hz with hz
         rw [← hz]; exact HCY.out
        ·exact HCL.out j z (by omega) hz⟩
       case measure => simp [intOf]; omega
      ·obtain rfl : res = false := B2.out k m x y HXK.out HYK.out hlm hcy
       go_wp2
       go_ret
       exact ⟨rfl, (HE2.out.trans HBI.out).trans HB3.out⟩
     ·obtain rfl : m = k := by omega
      have HOK2 : Hid (OkUp xs (m + 1)) := zq (okUp_succ HOK.out HXK.out HV.out HCL.out)
      have HLU := zq (looseUp_succ HXK.out)
      generalize looseUp xs m = lo at *
      cases lo <;> cases hw : x.wired
      all_goals
       rw [hw] at p5
       go_wp2
       go_roundw
       case rel => exact ⟨m + 1, by omega, by go_num, by rw [HLU.out, hw]; rfl, HW.out.trans HBI.out, HOK2.out⟩
       case measure => simp [intOf]; omega
  ·obtain rfl : k = n := by omega
   have HR : Hid (res = looseUp xs k) := zq (B4.out (by have := HS.out; omega) HOK.out)
   go_wp2
   go_ret
   exact ⟨ret_bool HR.out.symm, E0.out.trans HB.out⟩

def keyFor (s p : Int) : KeyD := if 128 ≤ p then ⟨0, p⟩ else ⟨s, p⟩

set_option maxHeartbeats 400000 in
theorem keyForI_c (s p : Int) (w : World) : Calls Tryz.prog 30 #[.int .i64 s, .int .i64 p] w fun r w' => r = .returned (.agg #[.int .i64 (keyFor s p).space, .int .i64 (keyFor s p).page]) ∧ Ex w w' := by
 by_cases h : 128 ≤ p
 ·have e : keyFor s p = ⟨0, p⟩ := if_pos h
  rw [e]
  clear e
  go_enter Tryz.func30, Tryz.ntmps30
  go_wp2
  exact bodyPost_ret (v := .agg #[.int .i64 0, .int .i64 p]) (by simp [results, Tryz.results30, go_sem]) rfl ⟨rfl, (Ex.refl _).alloc _⟩
 ·have e : keyFor s p = ⟨s, p⟩ := if_neg h
  rw [e]
  clear e
  go_enter Tryz.func30, Tryz.ntmps30
  go_wp2
  exact bodyPost_ret (v := .agg #[.int .i64 s, .int .i64 p]) (by simp [results, Tryz.results30, go_sem]) rfl ⟨rfl, (Ex.refl _).alloc _⟩

set_option maxHeartbeats 400000 in
theorem keyForS_c (s p : Int) (w : World) : Calls Tryz.prog 80 #[.int .i64 s, .int .i64 p] w fun r w' => r = .returned (.agg #[.int .i64 (keyFor s p).space, .int .i64 (keyFor s p).page]) ∧ Ex w w' := by
 by_cases h : 128 ≤ p
 ·have e : keyFor s p = ⟨0, p⟩ := if_pos h
  rw [e]
  clear e
  go_enter Tryz.func80, Tryz.ntmps80
  go_wp2
  exact bodyPost_ret (v := .agg #[.int .i64 0, .int .i64 p]) (by simp [results, Tryz.results80, go_sem]) rfl ⟨rfl, (Ex.refl _).alloc _⟩
 ·have e : keyFor s p = ⟨s, p⟩ := if_neg h
  rw [e]
  clear e
  go_enter Tryz.func80, Tryz.ntmps80
  go_wp2
  exact bodyPost_ret (v := .agg #[.int .i64 s, .int .i64 p]) (by simp [results, Tryz.results80, go_sem]) rfl ⟨rfl, (Ex.refl _).alloc _⟩
end Go.Proofs.YtbdlpbladpppjaaGreatDoor
namespace Go.Proofs.YtbdlpbladpppjaaGreatDoor
open Go.ChangeShapes Go.WideShapes Go.ChangeAt Go.RowKit
set_option linter.unusedVariables false

theorem pigeon : ∀ (l1 l2 : List Nat), l1.Nodup → (∀ x ∈ l1, x ∈ l2) → l2.length ≤ l1.length → ∀ x ∈ l2, x ∈ l1 := by
 intro l1
 induction l1 with
 | nil =>
  intro l2 _ _ hl x hx
  have h0 : l2.length = 0 := by simpa using hl
  rw [List.length_eq_zero_iff.1 h0] at hx
  cases hx
 | cons a l ih =>
  intro l2 hn hs hl x hx
  have ha : a ∈ l2 := hs a (by simp)
  obtain ⟨hn1, hn2⟩ := List.nodup_cons.1 hn
  by_cases e : x = a
  ·subst e; simp
  ·refine List.mem_cons_of_mem _ (ih (l2.erase a) hn2 (fun y hy => ?_) ?_ x ?_)
   ·exact (List.mem_erase_of_ne (fun e2 => hn1 (by rw [← e2]; exact hy))).2 (hs y (List.mem_cons_of_mem _ hy))
   ·rw [List.length_erase_of_mem ha]
    simp at hl
    omega
   ·exact (List.mem_erase_of_ne e).2 hx

/-- The numbers of the used ones among the first k frames. -/
def usedIx (fs : List FrameD) (k : Nat) : List Nat := (List.range k).filter fun i => match fs[i]? with | some f => f.used | none => false
theorem usedIx_len (fs : List FrameD) : ∀ k, k ≤ fs.length → (usedIx fs k).length = usedN fs k := by
 intro k
 induction k with
 | zero => intro _; rfl
 | succ k ih =>
  intro hk
  obtain ⟨f, hf⟩ : ∃ f, fs[k]? = some f := ⟨_, List.getElem?_eq_getElem (by omega)⟩
  have h1 := ih (by omega)
  unfold usedIx at h1 ⊢
  rw [List.range_succ, List.filter_append, List.length_append, h1, usedN_succ hf]
  cases hu : f.used <;> simp [hf, hu]
theorem mem_usedIx {fs : List FrameD} {k i : Nat} : i ∈ usedIx fs k ↔ i < k ∧ ∃ f, fs[i]? = some f ∧ f.used = true := by
 unfold usedIx
 rw [List.mem_filter, List.mem_range]
 refine and_congr_right fun _ => ?_
 cases h : fs[i]? <;> simp

theorem Buckets.at_ {t : TableD} {k : Nat} {ls : List (List Nat)} (h : Buckets t k ls) (hk : k ≤ t.buckets.length) {b : Nat} {l : List Nat} (hl : ls[b]? = some l) : ∃ a, b < k ∧ t.buckets[b]? = some a ∧ Chain t.frames a l ∧ ∀ (i : Nat) (f : FrameD), i ∈ l → t.frames[i]? = some f → hashK f.key t.buckets.length = b := by
 have hb : b < k := by have := (List.getElem?_eq_some_iff.1 hl).1; rw [h.1] at this; exact this
 obtain ⟨a, ha⟩ : ∃ a, t.buckets[b]? = some a := ⟨_, List.getElem?_eq_getElem (by omega)⟩
 obtain ⟨h1, h2⟩ := h.2 b a l hb ha hl
 exact ⟨a, hb, ha, h1, h2⟩
theorem Buckets.nodup {t : TableD} {ls : List (List Nat)} (h : Buckets t t.buckets.length ls) : ls.flatten.Nodup := by
 unfold List.Nodup
 rw [List.pairwise_flatten]
 constructor
 ·intro l hl
  obtain ⟨b, hb, e⟩ := List.getElem_of_mem hl
  obtain ⟨a, _, _, hc, _⟩ := h.at_ (Nat.le_refl _) (b := b) (l := l) (by rw [List.getElem?_eq_getElem hb, e])
  exact hc.nodup
 ·rw [List.pairwise_iff_getElem]
  intro i j hi hj hij x hx y hy e
  subst e
  obtain ⟨a, _, _, hc, hh⟩ := h.at_ (Nat.le_refl _) (b := i) (List.getElem?_eq_getElem hi)
  obtain ⟨a', _, _, hc', hh'⟩ := h.at_ (Nat.le_refl _) (b := j) (List.getElem?_eq_getElem hj)
  obtain ⟨f, hf, _⟩ := hc.in_ hx
  have h1 := hh x f hx hf
  have h2 := hh' x f hy hf
  omega
/-- Every used frame of a valid table lies in a chain. -/
theorem TableOk.met {t : TableD} (h : TableOk t) {i : Nat} {f : FrameD} (hf : t.frames[i]? = some f) (hu : f.used = true) : ∃ (b : Nat) (a : Int) (l : List Nat), t.buckets[b]? = some a ∧ Chain t.frames a l ∧ i ∈ l ∧ hashK f.key t.buckets.length = b := by
 obtain ⟨_, _, ls, hb, hs⟩ := h
 have h1 : i ∈ ls.flatten := by
  refine pigeon ls.flatten (usedIx t.frames t.frames.length) hb.nodup (fun x hx => ?_) ?_ i (mem_usedIx.2 ⟨getElem?_lt hf, f, hf, hu⟩)
  ·obtain ⟨l, hl, hx⟩ := List.mem_flatten.1 hx
   obtain ⟨b, hb', e⟩ := List.getElem_of_mem hl
   obtain ⟨a, _, _, hc, _⟩ := hb.at_ (Nat.le_refl _) (b := b) (l := l) (by rw [List.getElem?_eq_getElem hb', e])
   obtain ⟨g, hg, hgu⟩ := hc.in_ hx
   exact mem_usedIx.2 ⟨getElem?_lt hg, g, hg, hgu⟩
  ·rw [usedIx_len _ _ (Nat.le_refl _), List.length_flatten, ← hs]
   exact Nat.le_refl _
 obtain ⟨l, hl, hi⟩ := List.mem_flatten.1 h1
 obtain ⟨b, hb', e⟩ := List.getElem_of_mem hl
 obtain ⟨a, _, ha, hc, hh⟩ := hb.at_ (Nat.le_refl _) (b := b) (l := l) (by rw [List.getElem?_eq_getElem hb', e])
 exact ⟨b, a, l, ha, hc, hi, hh i f hi hf⟩

def fitsKey (k : KeyD) (f : FrameD) : Bool := f.used && eqB f.key k
/-- The frame of a key, or -1. -/
def findF (t : TableD) (k : KeyD) : Int := firstOf (fitsKey k) t.frames
theorem findF_hit {t : TableD} {k : KeyD} (h : TableOk t) {x : Nat} {f : FrameD} (hx : t.frames[x]? = some f) (hu : f.used = true) (hk : f.key = k) : findF t k = x := by
 refine firstOf_at hx (by unfold fitsKey; rw [hu, hk, eqB_self]; rfl) fun j g hj hg => ?_
 unfold fitsKey
 cases hgu : g.used
 ·rfl
 ·have h1 := (h.2.1 x f (getElem?_lt hx) hx).2 j g hj hg hu hgu
  rw [hk] at h1
  rw [eqB_false.2 h1]
  rfl
theorem findF_miss {t : TableD} {k : KeyD} (h : TableOk t) {b : Nat} {a : Int} {l : List Nat} (hb : hashK k t.buckets.length = b) (ha : t.buckets[b]? = some a) (hl : Chain t.frames a l) (hno : ∀ (x : Nat) (f : FrameD), x ∈ l → t.frames[x]? = some f → f.key ≠ k) : findF t k = -1 := by
 refine firstOf_none fun j g hj hg => ?_
 unfold fitsKey
 cases hgu : g.used
 ·rfl
 ·by_cases e : g.key = k
  ·obtain ⟨b', a', l', ha', hc', hi', hh'⟩ := h.met hg hgu
   rw [e, hb] at hh'
   have e2 : b' = b := by omega
   subst e2
   rw [ha] at ha'
   injection ha' with ha'
   subst ha'
   rw [hc'.one hl] at hi'
   exact absurd e (hno j g hi' hg)
  ·rw [eqB_false.2 e]
   rfl
theorem findF_range {t : TableD} (k : KeyD) : findF t k = -1 ∨ ∃ (x : Nat) (f : FrameD), findF t k = (x : Int) ∧ t.frames[x]? = some f := by
 rcases firstOf_cases (fitsKey k) t.frames with ⟨h, _⟩ | ⟨x, f, h, hf, _⟩
 ·exact .inl h
 ·exact .inr ⟨x, f, h, hf⟩

/-! ### machines -/
def lineSpace (m : MachD) (x : LineD) : Int := if x.tag = -1 then 0 else (spaceOf m.tags x.tag).1
def lineAt (m : MachD) (x : LineD) : Int := findF m.table (keyFor (lineSpace m x) x.page)
/-- What a valid line must say in a valid machine. -/
def LineFits (m : MachD) (x : LineD) : Prop := (x.tag = -1 ↔ 128 ≤ x.page) ∧ (x.tag ≠ -1 → (spaceOf m.tags x.tag).2 = true) ∧ (∃ (i : Nat) (f : FrameD), lineAt m x = (i : Int) ∧ (i : Int) = x.frame ∧ m.table.frames[i]? = some f ∧ f.rights = x.rights) ∧ (x.wired = true → x.tag = -1)
def FrameFits (f : FrameD) : Prop := ¬ (f.used = true ∧ 128 ≤ f.key.page ∧ f.key.space ≠ 0)
def MachHead (m : MachD) : Prop := TableOk m.table ∧ cacheV m.cache = true ∧ tagsV m.tags = true ∧ 0 ≤ ownPlace m.tags.owns m.space
def MachOk (m : MachD) : Prop := MachHead m ∧ (∀ (i : Nat) (f : FrameD), m.table.frames[i]? = some f → FrameFits f) ∧ ∀ (i : Nat) (x : LineD), m.cache.lines[i]? = some x → x.valid = true → LineFits m x
open Classical in
noncomputable def machV (m : MachD) : Bool := decide (MachOk m)
theorem machV_iff {m : MachD} : machV m = true ↔ MachOk m := by unfold machV; exact @decide_eq_true_iff _ (Classical.propDecidable _)
theorem machV_no {m : MachD} (h : ¬ MachOk m) : machV m = false := by
 cases e : machV m
 ·rfl
 ·exact absurd (machV_iff.1 e) h
theorem machV_yes {m : MachD} (h : MachOk m) : machV m = true := machV_iff.2 h
open Classical in
noncomputable def lineFitsB (m : MachD) (x : LineD) : Bool := decide (LineFits m x)
theorem lineFitsB_iff {m : MachD} {x : LineD} : lineFitsB m x = true ↔ LineFits m x := by unfold lineFitsB; exact @decide_eq_true_iff _ (Classical.propDecidable _)
theorem lineFitsB_no {m : MachD} {x : LineD} (h : ¬ LineFits m x) : lineFitsB m x = false := by
 cases e : lineFitsB m x
 ·rfl
 ·exact absurd (lineFitsB_iff.1 e) h

theorem keyFor_ok {s p : Int} (hs : 0 ≤ s ∧ s < 16) (hp : 0 ≤ p ∧ p < 256) : keyOk (keyFor s p) := by
 unfold keyFor keyOk
 split <;> (constructor <;> (constructor <;> (dsimp only; omega)))
theorem spaceOf_range {t : TagsD} (g : Int) (h : tagsV t = true) : 0 ≤ (spaceOf t g).1 ∧ (spaceOf t g).1 < 16 := by
 rcases spaceOf_or t g with ⟨e, _⟩ | ⟨k, x, hv, hx, _, e⟩
 ·rw [e]; dsimp only; omega
 ·rw [e]
  have := (((tagsV_iff t).1 h).2 k x (getElem?_lt hx) hx).1
  dsimp only
  omega
theorem line_page {t : CacheD} (h : cacheV t = true) {i : Nat} {x : LineD} (hx : t.lines[i]? = some x) (hv : x.valid = true) : 0 ≤ x.page ∧ x.page < 256 := by
 have h1 := (((cacheV_iff t).1 h).2.1 i x (getElem?_lt hx) hx).1
 unfold lineV at h1
 rw [hv] at h1
 simp only [if_true, Bool.and_eq_true] at h1
 exact inB_true.1 h1.2.1

/-! ### memories -/
def MemOk (m : MemD) : Prop := MachOk m.mach ∧ m.marks.length = m.mach.table.frames.length ∧ (0 ≤ m.hand ∧ m.hand < m.marks.length) ∧ ∀ (i : Nat) (f : FrameD), m.marks[i]? = some true → m.mach.table.frames[i]? = some f → f.used = true
open Classical in
noncomputable def memV (m : MemD) : Bool := decide (MemOk m)
theorem memV_iff {m : MemD} : memV m = true ↔ MemOk m := by unfold memV; exact @decide_eq_true_iff _ (Classical.propDecidable _)
theorem memV_no {m : MemD} (h : ¬ MemOk m) : memV m = false := by
 cases e : memV m
 ·rfl
 ·exact absurd (memV_iff.1 e) h
/-- The first frame that is not used, or -1. -/
def freeF_ (t : TableD) : Int := firstOf (fun f => !f.used) t.frames
end Go.Proofs.YtbdlpbladpppjaaGreatDoor
namespace Go.Proofs.YtbdlpbladpppjaaGreatDoor
open Go.ChangeShapes Go.WideShapes Go.ChangeAt Go.RowKit
open Rec (sz cs)
set_option linter.unusedVariables false
set_option maxRecDepth 100000

def lenOf : Value → Nat
 | .slice _ n _ => n
 | _ => 0
def nums (l : List Nat) : List Int := l.map (fun (i : Nat) => (i : Int))
theorem nums_len (l : List Nat) : (nums l).length = l.length := by unfold nums; simp
theorem nums_snoc (l : List Nat) (i : Nat) : nums (l ++ [i]) = nums l ++ [(i : Int)] := by unfold nums; simp

/-- What the reference answers for the chain that begins at a0. -/
def ChainSaid (t : TableD) (a0 : Int) (w : World) (r : Ending) (w' : World) : Prop := ∃ (l : List Nat) (ok : Bool) (A : Option Addr) (c : Nat), r = .returned (.tuple #[.slice A l.length c, .bool ok]) ∧ (ok = true → Chain t.frames a0 l) ∧ (ok = false → ∀ l', ¬ Chain t.frames a0 l') ∧ l.length ≤ t.frames.length ∧ Rd w' A (nums l) ∧ Ex w w'

set_option maxHeartbeats 4000000 in
theorem l3Chain_c (t : TableD) (A : Option Addr) (c : Nat) (B : Option Addr) (d b : Nat) (a0 : Int) (w : World) (hx : Rd w A t.buckets) (hy : Rd w B t.frames) (hb : t.buckets[b]? = some a0) (hn : t.buckets.length ≤ 1048576) (hm : t.frames.length ≤ 1048576) :
  Calls Tryz.prog 74 #[.agg #[.slice A t.buckets.length c, .slice B t.frames.length d], .int .i64 b] w (ChainSaid t a0 w) := by
 obtain ⟨i0, hi, hz0, hz1, hz2⟩ := info_parts infoMInt
 have HX := zq hx
 have HY := zq hy
 have HBK := zq hb
 have hbl : b < t.buckets.length := getElem?_lt hb
 obtain ⟨n, hn1⟩ : ∃ n, n = t.frames.length := ⟨_, rfl⟩
 obtain ⟨m, hm1⟩ : ∃ m, m = t.buckets.length := ⟨_, rfl⟩
 have HN := zq hn1
 have HM := zq hm1
 rw [← hn1] at hm ⊢
 rw [← hm1] at hn hbl ⊢
 obtain ⟨b1, o1, a1, rfl, hb1, ha1, g0⟩ := HX.out.int (k := b) (by have := HM.out; omega)
 have e : a1 = a0 := by rw [hb] at ha1; injection ha1 with e; exact e.symm
 subst e
 clear hx hy hb hn1 hm1 ha1
 go_enter Tryz.func74, Tryz.ntmps74
 go_wp2
 clear g0
 go_loopw [6, 7] (fun q i wr => ∃ (pre : List Nat) (a : Int) (A' : Option Addr) (c' : Nat), i = .int .i64 a ∧ q = .slice A' pre.length c' ∧ Fr 3 wr (w.heap.size + 1) A' c' (nums pre) ∧ pre.length ≤ n ∧ Trail t.frames a1 pre a ∧ Blk wr w.heap.size 26 [.slice (some ⟨b1, o1, none⟩) m c, .slice B n d] ∧ Ex w wr ∧ w.heap.size + 1 ≤ wr.heap.size) (fun q _ _ => n + 1 - lenOf q)
 case atStart => exact ⟨[], a1, _, 0, rfl, rfl, Fr.none_ _ _ _ _, Nat.zero_le _, Trail.start _ _, (Blk.new _ _ _).alloc _, ((Ex.refl _).alloc _).alloc _, by simp⟩
 case round =>
  obtain ⟨pre, a, A', c', rfl, rfl, hf, hl, htr, hk, hex, hsz⟩ := hrel
  have HF := zq hf
  have HT := zq htr
  have KX := zq hk
  have HE := zq hex
  have HSZ := zq hsz
  clear hf htr hk hex hsz
  obtain ⟨q0, q1⟩ := KX.out.c2
  have jX := KX.out.lt
  by_cases ha : a = -1
  ·subst ha
   go_wp2
   go_ret2
   exact ⟨pre, true, A', c', rfl, fun _ => HT.out.ends, (fun h => by cases h), by rw [← HN.out]; exact hl, HF.out.rd, HE.out⟩
  have hne : (a != -1) = true := by simpa using ha
  have HA := zq ha
  have hout : ∀ (w' : World), Ex wr w' → (∀ l', ¬ Chain t.frames a1 l') → ChainSaid t a1 w (.returned (.tuple #[.slice A' pre.length c', .bool false])) w' := fun w' he h => ⟨pre, false, A', c', rfl, (fun h => by cases h), fun _ => h, by rw [← HN.out]; exact hl, HF.out.rd.ex he, HE.out.trans he⟩
  have HOUT := zq hout
  clear hout
  by_cases h1 : a < 0
  ·go_wp2
   go_ret2
   exact HOUT.out _ (Ex.refl _) (HT.out.bad (fun i f e _ => by omega) HA.out)
  obtain ⟨i, rfl⟩ := Int.eq_ofNat_of_zero_le (show 0 ≤ a by omega)
  by_cases h2 : n ≤ i
  ·go_wp2
   go_ret2
   exact HOUT.out _ (Ex.refl _) (HT.out.bad (fun j f e hf => by have := getElem?_lt hf; have := HN.out; omega) HA.out)
  have h2' : i < n := by omega
  by_cases h3 : n ≤ pre.length
  ·go_wp2
   go_ret2
   exact HOUT.out _ (Ex.refl _) (HT.out.long (by rw [← HN.out]; exact h3) HA.out)
  have h3' : pre.length < n := by omega
  obtain ⟨b2, o2, f, rfl, hb2, hfi, k0, k1, k2, k3, k4⟩ := (HY.out.ex HE.out).frame (k := i) (by have := HN.out; omega)
  have HFI := zq hfi
  clear hfi
  cases hu : f.used
  ·rw [hu] at k0
   have HU := zq hu
   clear hu
   go_wp2
   go_ret2
   exact HOUT.out _ (Ex.refl _) (HT.out.bad (fun j g e hg => by
    have e2 : i = j := by omega
    subst e2
    rw [HFI.out] at hg
    injection hg with hg
    rw [← hg]; exact HU.out) HA.out)
  ·rw [hu] at k0
   have HU := zq hu
   clear hu
   have h63 : pre.length + 1 ≤ maxLen := by simp [maxLen]; omega
   have hby : (pre.length + 1) * 8 ≤ 140737488355328 := by omega
   have HLN := zq (nums_len pre).symm
   have HXE : Hid (Rd wr (some ⟨b2, o2, none⟩) t.frames) := zq (HY.out.ex HE.out)
   go_wp2_with (at_builtin; refine wpList_append_fr (α := Int) rfl _ _ 23 rfl 3 i0 _ 8 (w.heap.size + 1) Tryz.underlying23 hi hz0 hz1 hz2 rfl A' c' pre.length (nums pre) HLN.out rfl (HF.out.alloc _) _ 1 1 [(i : Int)] rfl rfl (Bk.new wr 3 [(i : Int)]).rd h63 hby (Nat.le_trans HSZ.out (by simp)) ?_)
   intro A6 c6 w6 happ
   have HAP := zq happ
   have KX6 : Hid (Blk w6 w.heap.size 26 [.slice (some ⟨b1, o1, none⟩) m c, .slice (some ⟨b2, o2, none⟩) n d]) := zq ((KX.out.alloc _).grown HAP.out.grown (fun e => by have := HF.out.row _ e.symm; omega))
   have HE6 : Hid (Ex w w6) := zq ((HE.out.alloc _).grown HAP.out.grown (fun g hg => by have := HF.out.row _ hg; omega))
   have hw6 : wr.heap.size ≤ w6.heap.size := by have := HAP.out.grown.size; simp at this; omega
   clear happ q0 q1 jX k0 k1 k2 k3 k4
   obtain ⟨q0, q1⟩ := KX6.out.c2
   have jX := KX6.out.lt
   obtain ⟨b3, o3, g, e3, hb3, hgi, k0, k1, k2, k3, k4⟩ := (HY.out.ex HE6.out).frame (k := i) (by have := HN.out; omega)
   cases e3
   have e : g = f := by rw [HFI.out] at hgi; injection hgi with e; exact e.symm
   subst e
   clear hgi
   go_wp2
   go_roundw
   case rel => exact ⟨pre ++ [i], g.next, A6, c6, rfl, by simp, by rw [nums_snoc]; exact HAP.out.fr, by simp; omega, HT.out.step HFI.out HU.out, KX6.out, HE6.out, by have := HSZ.out; omega⟩
   case measure => simp [lenOf]; omega
end Go.Proofs.YtbdlpbladpppjaaGreatDoor
namespace Go.Proofs.YtbdlpbladpppjaaGreatDoor
open Go.ChangeShapes Go.WideShapes Go.ChangeAt Go.RowKit

theorem enters {P : Program} {f : FuncId} {fn : Func} (hf : P.funcs[f]? = some fn) (hn : (fn.name == "runtime.NumGoroutine") = false) (hb : fn.body.isNone = false) (args : Array Value) (w : World) :
  (callFunc f args).run P w = .ok (.enter f args) w := by
 have h1 : fn.name ≠ "runtime.NumGoroutine" := by simpa using hn
 have h2 : ¬ fn.body = none := fun e => by rw [e] at hb; cases hb
 simp [callFunc, go_sem, hf, h1, h2]
theorem step_call {P : Program} {w : World} {ops : Array Oper} {o : Oper} {a : Act} {K : Act → World → Prop} {Q : Exit → Act → World → Prop} {X : Prop} (hgd : o.guard = none) {f : FuncId} (hen : ∀ (args : Array Value) (w : World), (callFunc f args).run P w = .ok (.enter f args) w) (xs : Array Operand) (ts : Array TypeId)
  (ho : o.op = .call { callee := .value (.func f), args := xs, argTypes := ts }) (vs : Array Value) (hv : xs.toList.map a.eval = vs.toList) {R : Ending → World → Prop} (hc : Calls P f vs w R)
  (h : ∀ e w', R e w' → ∃ v, e = .returned v ∧ K (a.put o.dst v) w') : if Region.wanted o (yielded ops a.tmps) = true then Oper.wp P o a w K Q else X := by
 have hw : Region.wanted o (yielded ops a.tmps) = true := by simp [Region.wanted, hgd]
 rw [if_pos hw]
 have hv' : xs.map a.eval = vs := Array.ext' (by rw [Array.toList_map]; exact hv)
 have he : (execOp a.eval o).run P w = .ok (.enter f vs) w := by
  rw [← hv']
  simp [execOp, ho, resolve, invoke, Act.eval, go_sem, hen]
 unfold Oper.wp
 rw [he, Oper.upon_enter]
 refine hc.mono fun e w' hr => ?_
 obtain ⟨v, rfl, hk⟩ := h e w' hr
 exact hk
theorem step_call_gu {P : Program} {w : World} {ops : Array Oper} {o : Oper} {a : Act} {K : Act → World → Prop} {Q : Exit → Act → World → Prop} {X : Prop} (hw : Region.wanted o (yielded ops a.tmps) = true) {f : FuncId} (hen : ∀ (args : Array Value) (w : World), (callFunc f args).run P w = .ok (.enter f args) w) (xs : Array Operand) (ts : Array TypeId)
  (ho : o.op = .call { callee := .value (.func f), args := xs, argTypes := ts }) (vs : Array Value) (hv : xs.toList.map a.eval = vs.toList) {R : Ending → World → Prop} (hc : Calls P f vs w R)
  (h : ∀ e w', R e w' → ∃ v, e = .returned v ∧ K (a.put o.dst v) w') : if Region.wanted o (yielded ops a.tmps) = true then Oper.wp P o a w K Q else X := by
 rw [if_pos hw]
 have hv' : xs.map a.eval = vs := Array.ext' (by rw [Array.toList_map]; exact hv)
 have he : (execOp a.eval o).run P w = .ok (.enter f vs) w := by
  rw [← hv']
  simp [execOp, ho, resolve, invoke, Act.eval, go_sem, hen]
 unfold Oper.wp
 rw [he, Oper.upon_enter]
 refine hc.mono fun e w' hr => ?_
 obtain ⟨v, rfl, hk⟩ := h e w' hr
 exact hk
end Go.Proofs.YtbdlpbladpppjaaGreatDoor
namespace Go.Proofs.YtbdlpbladpppjaaGreatDoor
open Go.ChangeShapes Go.WideShapes Go.ChangeAt Go.RowKit
set_option linter.unusedVariables false
set_option maxRecDepth 100000
section
variable {P : Program} {ops : Array Oper} {Q : Exit → Act → World → Prop} {md : Region.Mode} {S : World → Prop}
/-- Number i is taken first: it yields. -/
theorem tk {fuel : Nat} {listed l' : Array Bool} {a a' : Act} {w : World} {oi : Oper} {v : Value} (i : Nat) (h : wpAnyH P md ops Q S fuel l' a' w)
  (hi : ops[i]? = some oi := by (conv => lhs; whnf; arg 1; whnf))
  (hs : Region.noSelect ops = true := by kernel_rfl) (hf : Region.free md ops listed i = true := by kernel_rfl) (hr : (Region.ready md ops listed).contains i = true := by kernel_rfl)
  (hQ : ∀ c a w, Q (.panic c) (a.put oi.dst v) w → Q (.panic c) a w := by exact fun _ _ _ h => h)
  (hy : YieldsIf P ops S oi v a := by (refine Or.inl ⟨by rfl, ?_⟩; intro w hSw; (try dsimp only at hSw); first | (go_simp; done) | (go_simp; with_reducible rfl)))
  (hS : S w := by assumption)
  (hl : listed.setIfInBounds i true = l' := by first | (simp only [List.setIfInBounds_toArray, List.set_cons_zero, List.set_cons_succ]; done) | (simp only [List.setIfInBounds_toArray, List.set_cons_zero, List.set_cons_succ]; exact rfl) | exact rfl)
  (ha : a.put oi.dst v = a' := by first | (simp only [Act.put, List.setIfInBounds_toArray, List.set_cons_zero, List.set_cons_succ]; done) | (simp only [Act.put, List.setIfInBounds_toArray, List.set_cons_zero, List.set_cons_succ]; exact rfl) | exact rfl) :
  wpAnyH P md ops Q S (fuel + 1) listed a w := by
 subst hl ha
 exact wpAnyH_take hi hs hf hr hQ hy hS h
/-- Number i is taken first: its guard is off. -/
theorem tn {fuel : Nat} {listed l' : Array Bool} {a a' : Act} {w : World} {oi : Oper} (i : Nat) (h : wpAnyH P md ops Q S fuel l' a' w)
  (hi : ops[i]? = some oi := by (conv => lhs; whnf; arg 1; whnf))
  (hs : Region.noSelect ops = true := by kernel_rfl) (hf : Region.free md ops listed i = true := by kernel_rfl) (hr : (Region.ready md ops listed).contains i = true := by kernel_rfl)
  (hQ : ∀ c a w, Q (.panic c) (a.put oi.dst undef) w → Q (.panic c) a w := by exact fun _ _ _ h => h)
  (hw : Region.wanted oi (yielded ops a.tmps) = false := by rfl)
  (hS : S w := by assumption)
  (hl : listed.setIfInBounds i true = l' := by first | (simp only [List.setIfInBounds_toArray, List.set_cons_zero, List.set_cons_succ]; done) | (simp only [List.setIfInBounds_toArray, List.set_cons_zero, List.set_cons_succ]; exact rfl) | exact rfl)
  (ha : a.put oi.dst undef = a' := by first | (simp only [Act.put, List.setIfInBounds_toArray, List.set_cons_zero, List.set_cons_succ]; done) | (simp only [Act.put, List.setIfInBounds_toArray, List.set_cons_zero, List.set_cons_succ]; exact rfl) | exact rfl) :
  wpAnyH P md ops Q S (fuel + 1) listed a w := by
 subst hl ha
 exact wpAnyH_take hi hs hf hr hQ (Or.inr ⟨hw, rfl⟩) hS h
end
end Go.Proofs.YtbdlpbladpppjaaGreatDoor
namespace Go.Proofs.YtbdlpbladpppjaaGreatDoor
open Go.ChangeShapes Go.WideShapes Go.ChangeAt Go.RowKit
open Rec (sz cs)
set_option linter.unusedVariables false
set_option maxRecDepth 100000

theorem fieldsKeyV : Tryz.prog.underlying 43 = some (.struct (Tryz.prog.fieldsOf 43)) := by kernel_rfl
theorem heldKeyV : Tryz.prog.stoodInHeld 43 = false := by kernel_rfl
theorem guardKeyV : Tryz.prog.eqGuardType Tryz.prog.depth 43 = false := by kernel_rfl
theorem eqIn_keyV (x y : KeyD) (w : World) : (Op.equalIn 10000 43 (.agg #[.int .i64 x.space, .int .i64 x.page]) (.agg #[.int .i64 y.space, .int .i64 y.page])).run Tryz.prog w = .ok (eqB x y) w := by
 obtain ⟨a, b⟩ := x
 obtain ⟨c, d⟩ := y
 rw [run_equalIn_agg w 9999 _ _ _ fieldsKeyV heldKeyV]
 simp [go_sem, Tryz.underlying43]
 by_cases h1 : a = c <;> by_cases h2 : b = d <;> simp [eqB, h1, h2]
theorem eql_keyV (x y : KeyD) (w : World) : (binOp .eql 43 (.agg #[.int .i64 x.space, .int .i64 x.page]) (.agg #[.int .i64 y.space, .int .i64 y.page])).run Tryz.prog w = .ok (.bool (eqB x y)) w := by
 rw [run_eql_struct, eqIn_keyV]; rfl
theorem usedN_le (fs : List FrameD) (k : Nat) : usedN fs k ≤ k := by
 unfold usedN
 exact Nat.le_trans (List.length_filter_le _ _) (by rw [List.length_take]; omega)

set_option maxHeartbeats 4000000 in
theorem tableS_c (t : TableD) (A : Option Addr) (c : Nat) (B : Option Addr) (d : Nat) (w : World) (hx : Rd w A t.buckets) (hy : Rd w B t.frames) (hn : t.buckets.length ≤ 1048576) (hm : t.frames.length ≤ 1048576) :
  Calls Tryz.prog 46 #[.agg #[.slice A t.buckets.length c, .slice B t.frames.length d]] w fun r w' => r = .returned (.bool (tableV t)) ∧ Ex w w' := by
 have CB := zq (fun w => l2Buckets_c (t.buckets.length : Int) w)
 by_cases hh : TableHead t
 rotate_left
 ·rw [tableV_no (fun h => hh h.1)]
  have h3 : t.frames.length < 1 ∨ 16 < t.frames.length ∨ ((1 ≤ t.frames.length ∧ t.frames.length ≤ 16) ∧ bkB (t.buckets.length : Int) = false) := by
   unfold TableHead at hh
   by_cases g : 1 ≤ t.frames.length ∧ t.frames.length ≤ 16
   ·exact .inr (.inr ⟨g, bkB_not.2 (by omega)⟩)
   ·omega
  generalize t.frames.length = n at h3 hm ⊢
  generalize t.buckets.length = m at CB hn h3 ⊢
  clear hh hx hy
  rcases h3 with h1 | h1 | ⟨⟨h1, h2⟩, h3⟩
  ·go_enter Tryz.func46, Tryz.ntmps46
   go_wp2
   go_ret
   exact ⟨rfl, (by with_reducible repeat' (first | exact Ex.refl _ | refine Ex.alloc ?_ _ | refine Ex.drew ?_ | refine Ex.put ?_ (by omega) _))⟩
  ·go_enter Tryz.func46, Tryz.ntmps46
   go_wp2
   go_ret
   exact ⟨rfl, (by with_reducible repeat' (first | exact Ex.refl _ | refine Ex.alloc ?_ _ | refine Ex.drew ?_ | refine Ex.put ?_ (by omega) _))⟩
  ·rw [h3] at CB
   clear h3
   go_enter Tryz.func46, Tryz.ntmps46
   go_wp2_with fail
   refine (CB.out _).mono ?_
   rintro r w1 ⟨rfl, rfl⟩
   go_wp2
   go_ret
   exact ⟨rfl, (by with_reducible repeat' (first | exact Ex.refl _ | refine Ex.alloc ?_ _ | refine Ex.drew ?_ | refine Ex.put ?_ (by omega) _))⟩
 rw [show bkB (t.buckets.length : Int) = true from bkB_iff.2 (by unfold TableHead at hh; omega)] at CB
 have HH := zq hh
 obtain ⟨⟨hn1, hn2⟩, hm1, hm2⟩ := hh
 have HX := zq hx
 have HY := zq hy
 obtain ⟨n, en⟩ : ∃ n, n = t.frames.length := ⟨_, rfl⟩
 obtain ⟨m, em⟩ : ∃ m, m = t.buckets.length := ⟨_, rfl⟩
 have HN := zq en
 have HM := zq em
 rw [← en] at hn1 hn2 ⊢
 rw [← em] at hm1 hm2 CB ⊢
 have HNO : Hid (∀ w', Ex w w' → ¬ TableOk t → (Ending.returned (.bool false) = .returned (.bool (tableV t)) ∧ Ex w w')) := zq (fun w' h1 h2 => ⟨ret_bool (tableV_no h2).symm, h1⟩)
 have CC := zq (fun b a0 w h1 h2 hb => l3Chain_c t A c B d b a0 w h1 h2 hb hn hm)
 rw [← en, ← em] at CC
 have CES : Hid (∀ (args : Array Value) (w : World), (callFunc 75 args).run Tryz.prog w = .ok (.enter 75 args) w) := zq (enters Tryz.func75 (by kernel_rfl) (by kernel_rfl))
 clear hx hy hn hm en em
 go_enter Tryz.func46, Tryz.ntmps46
 go_wp2_with fail
 refine (CB.out _).mono ?_
 rintro r w1 ⟨rfl, rfl⟩
 clear CB
 go_wp2
 go_loopw [3, 4] (fun u i wr => ∃ k : Nat, k ≤ n ∧ i = .int .i64 k ∧ u = .int .i64 (usedN t.frames k) ∧ FramesUp t.frames k ∧ Blk wr w.heap.size 26 [.slice A m c, .slice B n d] ∧ Ex w wr) (fun _ i _ => n - (intOf i).toNat)
 case atStart => exact ⟨0, Nat.zero_le _, rfl, rfl, framesUp_zero _, Blk.new _ _ _, (Ex.refl _).alloc _⟩
 case round =>
  obtain ⟨k, hk, rfl, rfl, hup, hbk, hex⟩ := hrel
  have HU := zq hup
  have KX := zq hbk
  have HE := zq hex
  clear hup hbk hex
  by_cases hlt : k < n
  ·obtain ⟨b2, o2, f, rfl, hb2, hfi, k0, k1, k2, k3, k4⟩ := (HY.out.ex HE.out).frame (k := k) (by have := HN.out; omega)
   have HFI := zq hfi
   obtain ⟨q0, q1⟩ := KX.out.c2
   have jX := KX.out.lt
   have C1 := zq (fun w => l3Frame_c f w)
   cases hfb : frameB f
   ·rw [hfb] at C1
    clear hfi
    go_wp2_with fail
    refine (C1.out _).mono ?_
    rintro r w2 ⟨rfl, he⟩
    have HE2 := zq (HE.out.trans he)
    have HB := zq hfb
    clear he hfb
    go_wp2
    go_ret
    exact HNO.out _ HE2.out (not_frames HFI.out (fun h => by have := frameB_iff.2 h.1; rw [HB.out] at this; cases this))
   ·rw [hfb] at C1
    have HB : Hid (frameOk f) := zq (frameB_iff.1 hfb)
    clear hfi hfb
    go_wp2_with fail
    refine (C1.out _).mono ?_
    rintro r w2 ⟨rfl, he⟩
    have HE2 := zq (HE.out.trans he)
    have KX2 := zq (KX.out.ex he)
    clear he q0 q1 jX k0 k1 k2 k3 k4 C1 KX
    obtain ⟨q0, q1⟩ := KX2.out.c2
    have jX := KX2.out.lt
    obtain ⟨b3, o3, g, e3, hb3, hgi, k0, k1, k2, k3, k4⟩ := (HY.out.ex HE2.out).frame (k := k) (by have := HN.out; omega)
    cases e3
    have e : f = g := by rw [HFI.out] at hgi; injection hgi
    subst e
    clear hgi
    have hul := usedN_le t.frames k
    have HUS := zq (usedN_succ HFI.out)
    generalize usedN t.frames k = un at hul HUS ⊢
    cases hu : f.used
    ·have HFU := zq hu
     rw [hu] at k0
     clear hu
     go_wp2
     clear q0 q1 jX k0 k1 k2 k3 k4
     go_loopw [5] (fun i wq => ∃ j : Nat, j ≤ k ∧ i = .int .i64 j ∧ Ex w2 wq) (fun i _ => k - (intOf i).toNat)
     case atStart => exact ⟨0, Nat.zero_le _, rfl, Ex.refl _⟩
     case round =>
      obtain ⟨j, hj, rfl, hq⟩ := hrel
      have HQ := zq hq
      skip
      clear hq
      by_cases hjk : j < k
      ·obtain ⟨q0, q1⟩ := (KX2.out.ex HQ.out).c2
       have jX := (KX2.out.ex HQ.out).lt
       obtain ⟨b4, o4, g4, e4, hb4, hg4, k0, k1, k2, k3, k4⟩ := (HY.out.ex (HE2.out.trans HQ.out)).frame (k := k) (by have := HN.out; omega)
       cases e4
       have e : g4 = f := by rw [HFI.out] at hg4; injection hg4 with e; exact e.symm
       rw [e] at k0 k1 k2 k3 k4
       rw [HFU.out] at k0
       clear hg4 e
       go_wp2_with fail
       go_quiet (fail)
       go_wp2
       go_roundw
       case rel => exact ⟨j + 1, by omega, by go_num, HQ.out.drewN _⟩
       case measure => simp [intOf]; omega
      ·obtain rfl : j = k := by omega
       go_wp2
       go_roundw
       case rel => exact ⟨j + 1, by omega, by go_num, by rw [HUS.out, HFU.out]; simp, framesUp_succ HU.out HFI.out HB.out (fun j' g hj' hg h1 => by rw [HFU.out] at h1; cases h1), KX2.out.ex HQ.out, HE2.out.trans HQ.out⟩
       case measure => simp [intOf]; omega
    ·have HFU := zq hu
     rw [hu] at k0
     clear hu
     go_wp2
     clear q0 q1 jX k0 k1 k2 k3 k4
     go_loopw [5] (fun i wq => ∃ j : Nat, j ≤ k ∧ i = .int .i64 j ∧ Ex w2 wq ∧ ∀ j' g, j' < j → t.frames[j']? = some g → g.used = true → g.key ≠ f.key) (fun i _ => k - (intOf i).toNat)
     case atStart => exact ⟨0, Nat.zero_le _, rfl, Ex.refl _, fun j' g h => by omega⟩
     case round =>
      obtain ⟨j, hj, rfl, hq, hall⟩ := hrel
      have HQ := zq hq
      have HALL := zq hall
      clear hq hall
      by_cases hjk : j < k
      ·obtain ⟨q0, q1⟩ := (KX2.out.ex HQ.out).c2
       have jX := (KX2.out.ex HQ.out).lt
       obtain ⟨b4, o4, g4, e4, hb4, hg4, k0, k1, k2, k3, k4⟩ := (HY.out.ex (HE2.out.trans HQ.out)).frame (k := k) (by have := HN.out; omega)
       cases e4
       have e : g4 = f := by rw [HFI.out] at hg4; injection hg4 with e; exact e.symm
       rw [e] at k0 k1 k2 k3 k4
       rw [HFU.out] at k0
       clear hg4 e
       obtain ⟨b5, o5, g, e5, hb5, hgj, p0, p1, p2, p3, p4⟩ := (HY.out.ex (HE2.out.trans HQ.out)).frame (k := j) (by have := HN.out; omega)
       cases e5
       have HGJ := zq hgj
       clear hgj
       cases hgu : g.used
       ·have HGU := zq hgu
        rw [hgu] at p0
        clear hgu
        go_wp2_with fail
        go_quiet (fail)
        go_wp2
        go_roundw
        case rel => exact ⟨j + 1, by omega, by go_num, HQ.out.drewN _, fun j' g' hj' hg' h1 => by
         by_cases e : j' = j
         ·subst e
          rw [HGJ.out] at hg'
          injection hg' with hg'
          rw [← hg', HGU.out] at h1
          cases h1
         ·exact HALL.out j' g' (by omega) hg' h1⟩
        case measure => simp [intOf]; omega
       ·have HGU := zq hgu
        rw [hgu] at p0
        have hz := eql_keyV g.key f.key
        have hgd := guardKeyV
        cases hkk : eqB g.key f.key
        ·rw [hkk] at hz
         have HKK := zq (eqB_false.1 hkk)
         clear hgu hkk
         go_wp2_with fail
         go_quiet (fail)
         go_wp2
         go_roundw
         case rel => exact ⟨j + 1, by omega, by go_num, HQ.out.drewN _, fun j' g' hj' hg' h1 => by
          by_cases e : j' = j
          ·subst e
           rw [HGJ.out] at hg'
           injection hg' with hg'
           rw [← hg']
           exact HKK.out
          ·exact HALL.out j' g' (by omega) hg' h1⟩
         case measure => simp [intOf]; omega
        ·rw [hkk] at hz
         have HKK := zq (eqB_true.1 hkk)
         clear hgu hkk
         go_wp2_with fail
         go_quiet (fail)
         go_wp2
         go_ret
         exact HNO.out _ ((HE2.out.trans HQ.out).drewN _) (not_frames HFI.out (fun h => h.2 j g hjk HGJ.out HFU.out HGU.out HKK.out))
      ·obtain rfl : j = k := by omega
       go_wp2
       go_roundw
       case rel => exact ⟨j + 1, by omega, by go_num, by rw [HUS.out, HFU.out]; exact congrArg _ (by simp), framesUp_succ HU.out HFI.out HB.out (fun j' g hj' hg _ => HALL.out j' g hj' hg), KX2.out.ex HQ.out, HE2.out.trans HQ.out⟩
       case measure => simp [intOf]; omega
  · -- BUCKETS
   obtain rfl : k = n := by omega
   have HU3 : Hid (FramesUp t.frames t.frames.length) := zq (by rw [← HN.out]; exact HU.out)
   have hul := usedN_le t.frames k
   have HUN : Hid (usedN t.frames k = usedN t.frames t.frames.length) := zq (by rw [← HN.out])
   generalize usedN t.frames k = un at hul HUN ⊢
   obtain ⟨q0, q1⟩ := KX.out.c2
   have jX := KX.out.lt
   clear HU
   go_wp2
   clear q0 q1 jX
   go_loopw [3, 6] (fun u i wb => ∃ (b : Nat) (ls : List (List Nat)), b ≤ m ∧ i = .int .i64 b ∧ u = .int .i64 ((un : Int) - (sumL ls : Int)) ∧ Buckets t b ls ∧ sumL ls ≤ 16 * b ∧ Ex wr wb) (fun _ i _ => m - (intOf i).toNat)
   case atStart => exact ⟨0, [], Nat.zero_le _, rfl, by simp [sumL], Buckets.zero _, Nat.zero_le _, Ex.refl _⟩
   case round =>
    obtain ⟨b, ls, hb, rfl, rfl, hbu, hsl, hexb⟩ := hrel
    have HBU := zq hbu
    have HEB := zq hexb
    have HE3 := zq (HE.out.trans hexb)
    have KX2 := zq (KX.out.ex hexb)
    clear hbu hexb
    obtain ⟨q0, q1⟩ := KX2.out.c2
    have jX := KX2.out.lt
    by_cases hbm : b < m
    ·obtain ⟨a0, ha0⟩ : ∃ a, t.buckets[b]? = some a := ⟨_, List.getElem?_eq_getElem (by have := HM.out; omega)⟩
     have HA0 := zq ha0
     clear ha0
     generalize hsm : sumL ls = sl at hsl ⊢
     have HSM := zq hsm
     clear hsm
     go_wp2_with fail
     refine (CC.out b a0 _ (HX.out.ex HE3.out) (HY.out.ex HE3.out) HA0.out).mono ?_
     rintro r w3 ⟨l, ok, A3, c3, rfl, hok, hno, hll, hrd, he⟩
     have HOK := zq hok
     have HNOC := zq hno
     have HRD := zq hrd
     have HE4 := zq (HE3.out.trans he)
     have HEB3 := zq (HEB.out.trans he)
     have KX3 := zq (KX2.out.ex he)
     have hll' : l.length ≤ k := by have := HN.out; omega
     clear hok hno hrd he hll q0 q1 jX KX2
     cases ok
     ·have HNC := zq (HNOC.out rfl)
      clear HNOC HOK
      go_wp2
      go_ret
      exact HNO.out _ HE4.out (not_nochain HA0.out HNC.out)
     have HCH := zq (HOK.out rfl)
     clear HOK HNOC
     go_wp2
     go_loopw [9] (fun i wq => ∃ j : Nat, j ≤ l.length ∧ i = .int .i64 j ∧ Ex w3 wq ∧ ∀ (j' x : Nat) (f : FrameD), j' < j → l[j']? = some x → t.frames[x]? = some f → hashK f.key t.buckets.length = b) (fun i _ => l.length - (intOf i).toNat)
     case atStart => exact ⟨0, Nat.zero_le _, rfl, Ex.refl _, fun j' x f h => by omega⟩
     case round =>
      obtain ⟨j, hj, rfl, hq, hall⟩ := hrel
      have HQ := zq hq
      have HALL := zq hall
      clear hq hall
      by_cases hjl : j < l.length
      ·obtain ⟨b5, o5, y, rfl, hb5, hyj, hcy⟩ := (HRD.out.ex HQ.out).int (k := j) (by rw [nums_len]; exact hjl)
       obtain ⟨x, hxj⟩ : ∃ x, l[j]? = some x := ⟨_, List.getElem?_eq_getElem hjl⟩
       have e : y = (x : Int) := by unfold nums at hyj; rw [List.getElem?_map, hxj] at hyj; injection hyj with e; exact e.symm
       subst e
       obtain ⟨f, hfx, hfu⟩ := HCH.out.in_ (List.mem_of_getElem? hxj)
       have hxn : x < k := by have := getElem?_lt hfx; have := HN.out; omega
       have hkok : keyOk f.key := ((HU3.out x f (getElem?_lt hfx) hfx).1.2 hfu).1
       obtain ⟨b2, o2, f', rfl, hb2, hfx', k0, k1, k2, k3, k4⟩ := (HY.out.ex (HE4.out.trans HQ.out)).frame (k := x) (by have := HN.out; omega)
       have e : f' = f := by rw [hfx] at hfx'; injection hfx' with e; exact e.symm
       subst e
       have HXJ := zq hxj
       have HFX := zq hfx
       have FK : Hid (∀ w', Ex wr w' → (w'.cell? ⟨w.heap.size, 0, none⟩ = some (.slice A m c) ∧ w'.cell? ⟨w.heap.size, 1, none⟩ = some (.slice (some ⟨b2, o2, none⟩) k d) ∧ w'.cell? ⟨b5, o5 + j, none⟩ = some (.int .i64 x) ∧ w'.cell? ⟨b2, o2 + x * 5 + 1, none⟩ = some (.int .i64 f'.key.space) ∧ w'.cell? ⟨b2, o2 + x * 5 + 2, none⟩ = some (.int .i64 f'.key.page))) := zq (fun w' h => ⟨((KX3.out.ex HQ.out).ex h).c2.1, ((KX3.out.ex HQ.out).ex h).c2.2, (h.cell hb5).trans hcy, (h.cell hb2).trans k1, (h.cell hb2).trans k2⟩)
       have CH := zq (fun w => hashS_c f'.key (m : Int) w hkok (by omega) (by omega))
       have HHV : Hid (hashK f'.key (m : Int) = hashK f'.key t.buckets.length) := zq (by rw [← HM.out])
       generalize hashK f'.key (m : Int) = hv at CH HHV
       clear hyj hxj hfx hfx' k0 k1 k2 k3 k4 hcy hkok hfu
       by_cases ehv : hv = (b : Int)
       ·subst ehv
        obtain ⟨m0, m1, m2, m3, m4⟩ := FK.out wr (Ex.refl _)
        have jX := (KX3.out.ex HQ.out).lt
        go_wp2_with fail
        clear m0 m1 m2 m3 m4 jX
        refine wp_region_held_drew (S := (fun w' => (w'.cell? ⟨w.heap.size, 0, none⟩ = some (.slice A m c) ∧ w'.cell? ⟨w.heap.size, 1, none⟩ = some (.slice (some ⟨b2, o2, none⟩) k d) ∧ w'.cell? ⟨b5, o5 + j, none⟩ = some (.int .i64 x) ∧ w'.cell? ⟨b2, o2 + x * 5 + 1, none⟩ = some (.int .i64 f'.key.space) ∧ w'.cell? ⟨b2, o2 + x * 5 + 2, none⟩ = some (.int .i64 f'.key.page)))) (by kernel_rfl) ?r0_hS0 (fun hHeld => ?_)
        case r0_hS0 => exact FK.out _ (Ex.refl _).drew
        refine tk 0 ?_; refine tk 1 ?_; refine tk 2 ?_; refine tk 3 ?_; refine tk 4 ?_; refine tk 5 ?_; refine tk 6 ?_; refine tk 7 ?_; refine tk 8 ?_; refine tk 9 ?_; refine tk 10 ?_; refine tk 11 ?_; refine tk 13 ?_
        refine wpAnyH_ready (rs := [12]) (by kernel_rfl) (by simp) ?_
        refine AllReadyH.cons (o := ?r0_o12) ?r0_ho12 (fun K hK => ?_) AllReadyH.nil
        case r0_ho12 => (conv => lhs; whnf; arg 1; whnf)
        refine step_call_gu rfl CES.out _ _ rfl #[.agg #[  .int .i64 f'.key.space, .int .i64 f'.key.page], .int .i64 m] rfl (CH.out _) ?_; rintro r wa ⟨rfl, hwa⟩; refine ⟨_, rfl, ?_⟩; have hxa := Ex.trans (Ex.refl _).drew hwa
        refine hK.out _ _ ?r0_hS12 (fun hHeld12 => ?_)
        case r0_hS12 => exact FK.out _ hxa
        clear hK K hHeld
        try simp only [Act.put, List.setIfInBounds_toArray, List.set_cons_zero, List.set_cons_succ]
        refine tk 14 ?_
        refine wpAnyH_done (by kernel_rfl) ?_ _
        go_wp2
        go_roundw
        case rel => exact ⟨j + 1, by omega, by go_num, HQ.out.trans hxa, fun j' x' g hj' hx' hg => by
         by_cases e : j' = j
         ·subst e
          rw [HXJ.out] at hx'
          injection hx' with hx'
          subst hx'
          rw [HFX.out] at hg
          injection hg with hg
          subst hg
          exact HHV.out.symm
         ·exact HALL.out j' x' g (by omega) hx' hg⟩
        case measure => simp [intOf]; omega
       ·have HEHV := zq ehv
        obtain ⟨m0, m1, m2, m3, m4⟩ := FK.out wr (Ex.refl _)
        have jX := (KX3.out.ex HQ.out).lt
        go_wp2_with fail
        clear m0 m1 m2 m3 m4 jX
        refine wp_region_held_drew (S := (fun w' => (w'.cell? ⟨w.heap.size, 0, none⟩ = some (.slice A m c) ∧ w'.cell? ⟨w.heap.size, 1, none⟩ = some (.slice (some ⟨b2, o2, none⟩) k d) ∧ w'.cell? ⟨b5, o5 + j, none⟩ = some (.int .i64 x) ∧ w'.cell? ⟨b2, o2 + x * 5 + 1, none⟩ = some (.int .i64 f'.key.space) ∧ w'.cell? ⟨b2, o2 + x * 5 + 2, none⟩ = some (.int .i64 f'.key.page)))) (by kernel_rfl) ?r1_hS0 (fun hHeld => ?_)
        case r1_hS0 => exact FK.out _ (Ex.refl _).drew
        refine tk 0 ?_; refine tk 1 ?_; refine tk 2 ?_; refine tk 3 ?_; refine tk 4 ?_; refine tk 5 ?_; refine tk 6 ?_; refine tk 7 ?_; refine tk 8 ?_; refine tk 9 ?_; refine tk 10 ?_; refine tk 11 ?_; refine tk 13 ?_
        refine wpAnyH_ready (rs := [12]) (by kernel_rfl) (by simp) ?_
        refine AllReadyH.cons (o := ?r1_o12) ?r1_ho12 (fun K hK => ?_) AllReadyH.nil
        case r1_ho12 => (conv => lhs; whnf; arg 1; whnf)
        refine step_call_gu rfl CES.out _ _ rfl #[.agg #[  .int .i64 f'.key.space, .int .i64 f'.key.page], .int .i64 m] rfl (CH.out _) ?_; rintro r wa ⟨rfl, hwa⟩; refine ⟨_, rfl, ?_⟩; have hxa := Ex.trans (Ex.refl _).drew hwa
        refine hK.out _ _ ?r1_hS12 (fun hHeld12 => ?_)
        case r1_hS12 => exact FK.out _ hxa
        clear hK K hHeld
        try simp only [Act.put, List.setIfInBounds_toArray, List.set_cons_zero, List.set_cons_succ]
        refine tk 14 ?_
        refine wpAnyH_done (by kernel_rfl) ?_ _
        go_wp2
        go_ret
        exact HNO.out _ ((HE4.out.trans HQ.out).trans hxa) (not_hash HA0.out HCH.out (List.mem_of_getElem? HXJ.out) HFX.out (by rw [← HHV.out]; exact HEHV.out))
      ·obtain rfl : j = l.length := by omega
       go_wp2
       go_roundw
       case rel => exact ⟨b + 1, ls ++ [l], by omega, by go_num, by rw [sumL_succ, HSM.out]; exact congrArg _ (by omega), HBU.out.succ HA0.out HCH.out (fun x f hx hf => by
        obtain ⟨j', hj', e⟩ := List.getElem_of_mem hx
        exact HALL.out j' x f hj' (by rw [List.getElem?_eq_getElem hj', e]) hf), by rw [sumL_succ, HSM.out]; omega, HEB3.out.trans HQ.out⟩
       case measure => simp [intOf]; omega
    ·obtain rfl : b = m := by omega
     go_wp2
     go_ret
     refine ⟨ret_bool ?_, HE3.out⟩
     rw [Bool.eq_iff_iff, tableV_iff, tableOk_end HH.out HU3.out (HM.out ▸ HBU.out), ← HUN.out]
     simp
     omega

set_option maxHeartbeats 4000000 in
theorem l3Find_c (t : TableD) (A : Option Addr) (c : Nat) (B : Option Addr) (d : Nat) (k : KeyD) (w : World) (hx : Rd w A t.buckets) (hy : Rd w B t.frames) (hok : TableOk t) (hk : keyOk k) :
  Calls Tryz.prog 79 #[.agg #[.slice A t.buckets.length c, .slice B t.frames.length d], .agg #[.int .i64 k.space, .int .i64 k.page]] w fun r w' => (∃ s : Int, r = .returned (.tuple #[.int .i64 (findF t k), .int .i64 s])) ∧ Ex w w' := by
 obtain ⟨⟨hn1, hn2⟩, hm1, hm2⟩ := hok.1
 obtain ⟨hv1, hv2⟩ := hashK_range (n := t.buckets.length) hk hm1 hm2
 obtain ⟨b, eb⟩ : ∃ b : Nat, hashK k t.buckets.length = (b : Int) := ⟨(hashK k t.buckets.length).toNat, by omega⟩
 have hbm : b < t.buckets.length := by omega
 obtain ⟨a0, ha0⟩ : ∃ a, t.buckets[b]? = some a := ⟨_, List.getElem?_eq_getElem hbm⟩
 obtain ⟨l0, hl0, _⟩ := hok.bucket ha0
 have HX := zq hx
 have HY := zq hy
 have HL0 := zq hl0
 have CC := zq (fun w h1 h2 => l3Chain_c t A c B d b a0 w h1 h2 ha0 (by omega) (by omega))
 have CH := zq (fun w => hashS_c k (t.buckets.length : Int) w hk (by omega) (by omega))
 rw [eb] at CH
 have HIT := zq (fun x f h1 h2 h3 => @findF_hit t k hok x f h1 h2 h3)
 have HMISS := zq (fun l hl hno => @findF_miss t k hok b a0 l eb ha0 hl hno)
 obtain ⟨n, en⟩ : ∃ n, n = t.frames.length := ⟨_, rfl⟩
 obtain ⟨m, em⟩ : ∃ m, m = t.buckets.length := ⟨_, rfl⟩
 have HN := zq en
 rw [← en] at hn1 hn2 CC ⊢
 rw [← em] at hm1 hm2 hbm CC CH ⊢
 generalize findF t k = res at HIT HMISS ⊢
 have CES : Hid (∀ (args : Array Value) (w : World), (callFunc 75 args).run Tryz.prog w = .ok (.enter 75 args) w) := zq (enters Tryz.func75 (by kernel_rfl) (by kernel_rfl))
 have CEC : Hid (∀ (args : Array Value) (w : World), (callFunc 74 args).run Tryz.prog w = .ok (.enter 74 args) w) := zq (enters Tryz.func74 (by kernel_rfl) (by kernel_rfl))
 clear hx hy hl0 ha0 eb hv1 hv2 hok hk en em
 go_enter Tryz.func79, Tryz.ntmps79
 go_wp2_with fail
 obtain ⟨w0, hw0⟩ : ∃ w0 : World, w0 = (w.alloc (.cells #[.slice A m c, .slice B n d] 26)).alloc (.cells #[.int .i64 k.space, .int .i64 k.page] 43) := ⟨_, rfl⟩
 obtain ⟨gt, hgt⟩ : ∃ gt : Nat, gt = w.heap.size := ⟨_, rfl⟩
 obtain ⟨gk, hgk⟩ : ∃ gk : Nat, gk = w.heap.size + 1 := ⟨_, rfl⟩
 have K0 : Hid (Blk w0 gt 26 [.slice A m c, .slice B n d]) := zq (by rw [hw0, hgt]; exact (Blk.new w _ _).alloc _)
 have K1 : Hid (Blk w0 gk 43 [.int .i64 k.space, .int .i64 k.page]) := zq (by rw [hw0, hgk]; exact Blk.new_at _ _ _ (by simp))
 have E0 : Hid (Ex w w0) := zq (by rw [hw0]; exact ((Ex.refl w).alloc _).alloc _)
 rw [← hw0]
 try rw [← hgk]
 rw [← hgt]
 clear hw0 hgt hgk
 have FK : Hid (∀ w', Ex w0 w' → (w'.cell? ⟨gt, 0, none⟩ = some (.slice A m c) ∧ w'.cell? ⟨gt, 1, none⟩ = some (.slice B n d) ∧ w'.cell? ⟨gk, 0, none⟩ = some (.int .i64 k.space) ∧ w'.cell? ⟨gk, 1, none⟩ = some (.int .i64 k.page))) := zq (fun w' h => ⟨(K0.out.ex h).c2.1, (K0.out.ex h).c2.2, (K1.out.ex h).c2.1, (K1.out.ex h).c2.2⟩)
 refine wp_region_held_drew (S := (fun w' => (w'.cell? ⟨gt, 0, none⟩ = some (.slice A m c) ∧ w'.cell? ⟨gt, 1, none⟩ = some (.slice B n d) ∧ w'.cell? ⟨gk, 0, none⟩ = some (.int .i64 k.space) ∧ w'.cell? ⟨gk, 1, none⟩ = some (.int .i64 k.page)))) (by kernel_rfl) ?r0_hS0 (fun hHeld => ?_)
 case r0_hS0 => exact FK.out _ (Ex.refl _).drew
 refine tk 0 ?_; refine tk 1 ?_; refine tk 2 ?_; refine tk 3 ?_; refine tk 4 ?_
 refine wpAnyH_ready (rs := [5]) (by kernel_rfl) (by simp) ?_
 refine AllReadyH.cons (o := ?r0_o5) ?r0_ho5 (fun K hK => ?_) AllReadyH.nil
 case r0_ho5 => (conv => lhs; whnf; arg 1; whnf)
 refine step_call_gu rfl CES.out _ _ rfl #[.agg #[.int .i64 k.space, .int .i64 k.page], .int .i64 m] rfl (CH.out _) ?_; rintro r wa ⟨rfl, hwa⟩; refine ⟨_, rfl, ?_⟩; have hxa := Ex.trans (Ex.refl _).drew hwa
 refine hK.out _ _ ?r0_hS5 (fun hHeld5 => ?_)
 case r0_hS5 => exact FK.out _ hxa
 clear hK K hHeld
 try simp only [Act.put, List.setIfInBounds_toArray, List.set_cons_zero, List.set_cons_succ]
 refine wpAnyH_ready (rs := [6]) (by kernel_rfl) (by simp) ?_
 refine AllReadyH.cons (o := ?r0_o6) ?r0_ho6 (fun K hK => ?_) AllReadyH.nil
 case r0_ho6 => (conv => lhs; whnf; arg 1; whnf)
 refine step_call_gu rfl CEC.out _ _ rfl #[.agg #[.slice A m c, .slice B n d], .int .i64 b] rfl (CC.out _ (HX.out.ex (E0.out.trans hxa)) (HY.out.ex (E0.out.trans hxa))) ?_; rintro r w3 ⟨l, ok, A3, c3, rfl, hok3, hno3, hll, hrd, he⟩; obtain rfl : ok = true := (by cases ok; exact absurd HL0.out (hno3 rfl _); rfl); have e : l0 = l := HL0.out.one (hok3 rfl); subst e; refine ⟨_, rfl, ?_⟩; have hx3 := Ex.trans hxa he
 refine hK.out _ _ ?r0_hS6 (fun hHeld6 => ?_)
 case r0_hS6 => exact FK.out _ hx3
 clear hK K hHeld5
 try simp only [Act.put, List.setIfInBounds_toArray, List.set_cons_zero, List.set_cons_succ]
 refine tk 7 ?_; refine tk 8 ?_; refine tk 9 ?_; refine tk 10 ?_; refine tk 11 ?_
 refine wpAnyH_done (by kernel_rfl) ?_ _
 have HX3 := zq hx3
 have HRD := zq hrd
 have hll' : l0.length ≤ n := by have := HN.out; omega
 clear hx3 hxa he hwa hno3 hok3 hll hrd
 go_wp2
 go_loopw [8] (fun i wq => ∃ j : Nat, j ≤ l0.length ∧ i = .int .i64 j ∧ Ex w3 wq ∧ ∀ (j' x : Nat) (f : FrameD), j' < j → l0[j']? = some x → t.frames[x]? = some f → f.key ≠ k) (fun i _ => l0.length - (intOf i).toNat)
 case atStart => exact ⟨0, Nat.zero_le _, rfl, Ex.refl _, fun j' x f h => by omega⟩
 case round =>
  obtain ⟨j, hj, rfl, hq, hall⟩ := hrel
  have HQ := zq (HX3.out.trans hq)
  have HQ3 := zq hq
  have HALL := zq hall
  clear hq hall
  by_cases hjl : j < l0.length
  ·obtain ⟨b5, o5, y, rfl, hb5, hyj, hcy⟩ := (HRD.out.ex HQ3.out).int (k := j) (by rw [nums_len]; exact hjl)
   obtain ⟨x, hxj⟩ : ∃ x, l0[j]? = some x := ⟨_, List.getElem?_eq_getElem hjl⟩
   have e : y = (x : Int) := by unfold nums at hyj; rw [List.getElem?_map, hxj] at hyj; injection hyj with e; exact e.symm
   subst e
   obtain ⟨f, hfx, hfu⟩ := HL0.out.in_ (List.mem_of_getElem? hxj)
   have hxn : x < n := by have := getElem?_lt hfx; have := HN.out; omega
   obtain ⟨b2, o2, f', rfl, hb2, hfx', k0, k1, k2, k3, k4⟩ := (HY.out.ex (E0.out.trans HQ.out)).frame (k := x) (by have := HN.out; omega)
   have e : f' = f := by rw [hfx] at hfx'; injection hfx' with e; exact e.symm
   subst e
   have HXJ := zq hxj
   have HFX := zq hfx
   have HFU := zq hfu
   have FK2 : Hid (∀ w', Ex wr w' → (w'.cell? ⟨gt, 1, none⟩ = some (.slice (some ⟨b2, o2, none⟩) n d) ∧ w'.cell? ⟨gk, 0, none⟩ = some (.int .i64 k.space) ∧ w'.cell? ⟨gk, 1, none⟩ = some (.int .i64 k.page) ∧ w'.cell? ⟨b5, o5 + j, none⟩ = some (.int .i64 x) ∧ w'.cell? ⟨b2, o2 + x * 5 + 1, none⟩ = some (.int .i64 f'.key.space) ∧ w'.cell? ⟨b2, o2 + x * 5 + 2, none⟩ = some (.int .i64 f'.key.page))) := zq (fun w' h => ⟨(K0.out.ex (HQ.out.trans h)).c2.2, (K1.out.ex (HQ.out.trans h)).c2.1, (K1.out.ex (HQ.out.trans h)).c2.2, (h.cell hb5).trans hcy, (h.cell hb2).trans k1, (h.cell hb2).trans k2⟩)
   have hz := eql_keyV f'.key k
   have hgd := guardKeyV
   clear hyj hxj hfx hfx' k0 k1 k2 k3 k4 hcy hfu hb2 hb5
   cases hek : eqB f'.key k
   ·rw [hek] at hz
    have HEK := zq (eqB_false.1 hek)
    clear hek
    go_wp2_with fail
    refine wp_region_held_drew (S := (fun w' => (w'.cell? ⟨gt, 1, none⟩ = some (.slice (some ⟨b2, o2, none⟩) n d) ∧ w'.cell? ⟨gk, 0, none⟩ = some (.int .i64 k.space) ∧ w'.cell? ⟨gk, 1, none⟩ = some (.int .i64 k.page) ∧ w'.cell? ⟨b5, o5 + j, none⟩ = some (.int .i64 x) ∧ w'.cell? ⟨b2, o2 + x * 5 + 1, none⟩ = some (.int .i64 f'.key.space) ∧ w'.cell? ⟨b2, o2 + x * 5 + 2, none⟩ = some (.int .i64 f'.key.page)))) (by kernel_rfl) ?r1_hS0 (fun hHeld => ?_)
    case r1_hS0 => exact FK2.out _ (Ex.refl _).drew
    refine tk 0 ?_; refine tk 1 ?_; refine tk 2 ?_; refine tk 3 ?_; refine tk 4 ?_; refine tk 5 ?_; refine tk 6 ?_; refine tk 7 ?_; refine tk 8 ?_; refine tk 9 ?_; refine tk 10 ?_
    refine wpAnyH_done (by kernel_rfl) ?_ _
    clear hz hgd
    go_wp2
    go_roundw
    case rel => exact ⟨j + 1, by omega, by go_num, HQ3.out.drew, fun j' x' g hj' hx' hg => by
     by_cases e : j' = j
     ·subst e
      rw [HXJ.out] at hx'
      injection hx' with hx'
      subst hx'
      rw [HFX.out] at hg
      injection hg with hg
      subst hg
      exact HEK.out
     ·exact HALL.out j' x' g (by omega) hx' hg⟩
    case measure => simp [intOf]; omega
   ·rw [hek] at hz
    obtain rfl : res = (x : Int) := HIT.out x f' HFX.out HFU.out (eqB_true.1 hek)
    clear hek
    obtain ⟨m0, m1, m2, m3, m4, m5⟩ := FK2.out wr.drew (Ex.refl _).drew
    clear m0 m1 m2 m4 m5
    go_wp2_with fail
    refine wp_region_held_drew (S := (fun w' => (w'.cell? ⟨gt, 1, none⟩ = some (.slice (some ⟨b2, o2, none⟩) n d) ∧ w'.cell? ⟨gk, 0, none⟩ = some (.int .i64 k.space) ∧ w'.cell? ⟨gk, 1, none⟩ = some (.int .i64 k.page) ∧ w'.cell? ⟨b5, o5 + j, none⟩ = some (.int .i64 x) ∧ w'.cell? ⟨b2, o2 + x * 5 + 1, none⟩ = some (.int .i64 f'.key.space) ∧ w'.cell? ⟨b2, o2 + x * 5 + 2, none⟩ = some (.int .i64 f'.key.page)))) (by kernel_rfl) ?r2_hS0 (fun hHeld => ?_)
    case r2_hS0 => exact FK2.out _ (Ex.refl _).drew
    refine tk 0 ?_; refine tk 1 ?_; refine tk 2 ?_; refine tk 3 ?_; refine tk 4 ?_; refine tk 5 ?_; refine tk 6 ?_; refine tk 7 ?_; refine tk 8 ?_; refine tk 9 ?_; refine tk 10 ?_
    refine wpAnyH_done (by kernel_rfl) ?_ _
    clear hz hgd
    go_wp2
    go_ret2
    exact ⟨⟨_, rfl⟩, (E0.out.trans HQ.out).drew⟩
  ·obtain rfl : j = l0.length := by omega
   obtain rfl : res = -1 := HMISS.out l0 HL0.out (fun x f hx hf => by
    obtain ⟨j', hj', e⟩ := List.getElem_of_mem hx
    exact HALL.out j' x f hj' (by rw [List.getElem?_eq_getElem hj', e]) hf)
   go_wp2
   go_ret2
   exact ⟨⟨_, rfl⟩, E0.out.trans HQ.out⟩

set_option maxHeartbeats 1000000 in
theorem find1_c (f : FrameD) (k : KeyD) (w : World) (gk : Nat) (hk : Blk w gk 43 [.int .i64 k.space, .int .i64 k.page]) :
  Calls Tryz.prog 60 #[.agg #[.bool f.used, .int .i64 f.key.space, .int .i64 f.key.page, .int .i64 f.rights, .int .i64 f.next], .pointer (some ⟨gk, 0, none⟩)] w fun r w' => r = .returned (.bool (fitsKey k f)) ∧ Ex w w' := by
 obtain ⟨p0, p1⟩ := hk.c2
 have lk := hk.lt
 have hz := eql_keyV f.key k
 have hgd := guardKeyV
 unfold fitsKey
 clear hk
 cases hu : f.used
 ·go_enter Tryz.func60, Tryz.ntmps60
  go_wp2
  go_ret
  exact ⟨ret_bool (by simp), (Ex.refl _).alloc _⟩
 ·generalize eqB f.key k = res at hz ⊢
  go_enter Tryz.func60, Tryz.ntmps60
  go_wp2
  go_ret
  exact ⟨ret_bool (by simp), (Ex.refl _).alloc _⟩

set_option maxHeartbeats 1000000 in
theorem indexFind_c (xs : List FrameD) (k : KeyD) (A : Option Addr) (c : Nat) (w : World) (gk : Nat) (hx : Rd w A xs) (hn : xs.length ≤ 1048576) (hk : Blk w gk 43 [.int .i64 k.space, .int .i64 k.page]) :
  Calls Tryz.prog 59 #[.slice A xs.length c, .func (.func 60) #[] #[.pointer (some ⟨gk, 0, none⟩)]] w fun r w' => r = .returned (.int .i64 (firstOf (fitsKey k) xs)) ∧ Ex w w' := by
 have B1 := zq (fun k' x => @firstOf_at _ (fitsKey k) xs k' x)
 have B2 := zq (@firstOf_none _ (fitsKey k) xs)
 generalize firstOf (fitsKey k) xs = res at *
 obtain ⟨n, hn1⟩ : ∃ n, n = xs.length := ⟨_, rfl⟩
 have HN := zq hn1
 rw [← hn1] at B2 hn ⊢
 have HX := zq hx
 have HK := zq hk
 clear hn1 hx hk
 go_enter Tryz.func59, Tryz.ntmps59
 go_wp2
 go_loopw [8] (fun i wr => ∃ q : Nat, q ≤ n ∧ i = .int .i64 q ∧ Ex w wr ∧ ∀ (j : Nat) (y : FrameD), j < q → xs[j]? = some y → fitsKey k y = false) (fun i _ => n - (intOf i).toNat)
 case atStart => exact ⟨0, Nat.zero_le _, rfl, Ex.refl _, fun j y h => by omega⟩
 case round =>
  obtain ⟨q, hq, rfl, hbel, hcl⟩ := hrel
  have HB := zq hbel
  have HCL := zq hcl
  clear hbel hcl
  by_cases hlt : q < n
  ·obtain ⟨b1, o1, x, rfl, hb1, hxk, h0, h1, h2, h3, h4⟩ := Rd.frame (HX.out.ex HB.out) (k := q) (by have := HN.out; omega)
   have HXK := zq hxk
   clear hxk
   go_wp2_with fail
   refine (find1_c x k _ _ (HK.out.ex HB.out)).mono ?_
   rintro r w2 ⟨rfl, hb2⟩
   have HB2 := zq hb2
   clear hb2 h0 h1 h2 h3 h4
   cases hv : fitsKey k x
   ·have HV := zq hv
    go_wp2
    go_roundw
    case rel => exact ⟨q + 1, by omega, by go_num, HB.out.trans HB2.out, fun j z hj hz => by
     by_cases e : j = q
     ·subst e
      have := HXK.out
      rw [this] at hz
      injection hz with hz
      rw [← hz]; exact HV.out
     ·exact HCL.out j z (by omega) hz⟩
    case measure => simp [intOf]; omega
   ·obtain rfl : res = (q : Int) := B1.out q x HXK.out hv HCL.out
    go_wp2
    go_ret
    exact ⟨rfl, HB.out.trans HB2.out⟩
  ·obtain rfl : q = n := by omega
   obtain rfl : res = -1 := B2.out HCL.out
   go_wp2
   go_ret
   exact ⟨rfl, HB.out⟩

set_option maxHeartbeats 1000000 in
theorem findI_c (t : TableD) (A : Option Addr) (c : Nat) (B : Option Addr) (d : Nat) (k : KeyD) (w : World) (hy : Rd w B t.frames) (hm : t.frames.length ≤ 1048576) :
  Calls Tryz.prog 29 #[.agg #[.slice A t.buckets.length c, .slice B t.frames.length d], .agg #[.int .i64 k.space, .int .i64 k.page]] w fun r w' => r = .returned (.int .i64 (findF t k)) ∧ Ex w w' := by
 have HY := zq hy
 clear hy
 unfold findF
 have hmf : ∀ (fn : Fn) (first cap : Array Value) (w : World), (Instr.makeFunc fn first cap).run Tryz.prog w = .ok (.func fn first cap) w := fun _ _ _ _ => rfl
 go_enter Tryz.func29, Tryz.ntmps29
 go_wp2_with fail
 refine (indexFind_c t.frames k B d _ _ ((HY.out.alloc _).alloc _) hm (Blk.new_at _ _ _ (by simp))).mono ?_
 rintro r w2 ⟨rfl, hb2⟩
 have HB2 : Hid (Ex w w2) := zq ((((Ex.refl w).alloc _).alloc _).trans hb2)
 clear hb2
 go_wp2
 go_ret
 exact ⟨rfl, HB2.out⟩
end Go.Proofs.YtbdlpbladpppjaaGreatDoor
namespace Go.Proofs.YtbdlpbladpppjaaGreatDoor
open Go.ChangeShapes Go.WideShapes Go.ChangeAt Go.RowKit
open Rec (sz cs)

/-- The addresses and capacities of a machine's four slices. -/
structure MA where
 b : Option Addr
 bc : Nat
 f : Option Addr
 fc : Nat
 l : Option Addr
 lc : Nat
 o : Option Addr
 oc : Nat

/-- The four slices read as the machine's lists. -/
structure HasM (w : World) (m : MachD) (a : MA) : Prop where
 b : Rd w a.b m.table.buckets
 f : Rd w a.f m.table.frames
 l : Rd w a.l m.cache.lines
 o : Rd w a.o m.tags.owns
/-- The capacities hold the lists. -/
structure CapM (m : MachD) (a : MA) : Prop where
 b : m.table.buckets.length ≤ a.bc
 f : m.table.frames.length ≤ a.fc
 l : m.cache.lines.length ≤ a.lc
 o : m.tags.owns.length ≤ a.oc
/-- The lists are short enough for a law to look at them. -/
structure FewM (m : MachD) : Prop where
 b : m.table.buckets.length ≤ 1048576
 f : m.table.frames.length ≤ 1048576
 l : m.cache.lines.length ≤ 1048576
 o : m.tags.owns.length ≤ 1048576
/-- The lists' lengths are lengths of slices. -/
structure LenM (m : MachD) : Prop where
 b : m.table.buckets.length ≤ maxLen
 f : m.table.frames.length ≤ maxLen
 l : m.cache.lines.length ≤ maxLen
 o : m.tags.owns.length ≤ maxLen
section
variable {w w' : World} {m : MachD} {a : MA}
theorem HasM.ex (h : HasM w m a) (k : Ex w w') : HasM w' m a := ⟨h.b.ex k, h.f.ex k, h.l.ex k, h.o.ex k⟩
theorem HasM.alloc (h : HasM w m a) (o : Obj) : HasM (w.alloc o) m a := ⟨h.b.alloc o, h.f.alloc o, h.l.alloc o, h.o.alloc o⟩
theorem HasM.drew (h : HasM w m a) : HasM w.drew m a := ⟨h.b, h.f, h.l, h.o⟩
end

theorem mach_eq (x y : MachD) : x = y ↔ x.table = y.table ∧ x.cache = y.cache ∧ x.tags = y.tags ∧ x.space = y.space := by
 cases x; cases y; simp
theorem mem_eq (x y : MemD) : x = y ↔ x.mach = y.mach ∧ x.marks = y.marks ∧ x.hand = y.hand := by
 cases x; cases y; simp
end Go.Proofs.YtbdlpbladpppjaaGreatDoor
namespace Go.Proofs.YtbdlpbladpppjaaGreatDoor
open Go.ChangeShapes Go.WideShapes Go.ChangeAt Go.RowKit
open Rec (sz cs)
set_option linter.unusedVariables false
set_option maxRecDepth 100000

theorem wpList_put_int (w : World) {ops : Array Oper} {rest : List Oper} {o : Oper} {a : Act} {Q : Exit → Act → World → Prop}
  (hg : o.guard = none) (m x v : Operand) (hop : o.op = Op.mapUpdate 88 m x v) (b n : Nat) (S : List Int) (hm : a.eval m = .map (some b)) (h : HasInts w b n S) (hn : n < maxLen) (k : Int) (hx : a.eval x = .int .i64 k) (hv : a.eval v = .bool true)
  (hk : (Lit.int .i64 k).wf = true) (hK : ∀ w', HasInts w' b (n + 1) (k :: S) → w.grownBy w' (some b) → wpList Tryz.prog ops Q rest (a.put o.dst undef) w') : wpList Tryz.prog ops Q (o :: rest) a w := by
 refine wpList_plain hg fun K' hK' => ?_
 obtain ⟨w', hrun, r1, r2⟩ := h.put hn k hk
 unfold Oper.wp
 simp [execOp, hop, hm, hx, hv, hrun, Result.andThen]
 exact hK' _ _ (hK w' r1 r2)

/-- The tag before place k, or -1. -/
def lastTag (xs : List OwnD) (k : Nat) : Int := if k = 0 then -1 else (xs.getD (k - 1) ⟨0, 0⟩).tag
theorem lastTag_succ {xs : List OwnD} {k : Nat} {x : OwnD} (h : xs[k]? = some x) : lastTag xs (k + 1) = x.tag := by
 unfold lastTag
 rw [if_neg (by omega), Nat.add_sub_cancel, own_getD h]
theorem lastTag_le {t : TagsD} {k : Nat} (h : OwnsUp t k) (hk : k ≤ t.owns.length) {j : Nat} {y : OwnD} (hj : j < k) (hy : t.owns[j]? = some y) : y.tag ≤ lastTag t.owns k := by
 obtain ⟨z, hz⟩ : ∃ z, t.owns[k - 1]? = some z := ⟨_, List.getElem?_eq_getElem (by omega)⟩
 have e : lastTag t.owns k = z.tag := by
  have := lastTag_succ hz
  rwa [show k - 1 + 1 = k from by omega] at this
 rw [e]
 by_cases hjk : j = k - 1
 ·subst hjk
  rw [hz] at hy
  injection hy with hy
  rw [hy]; exact Int.le_refl _
 ·have := ((h (k - 1) z (by omega) hz).2 j y (by omega) hy).1
  omega
theorem lastTag_or (xs : List OwnD) {k : Nat} (hk : k ≤ xs.length) : (k = 0 ∧ lastTag xs k = -1) ∨ ∃ y, 0 < k ∧ xs[k - 1]? = some y ∧ lastTag xs k = y.tag := by
 by_cases h : k = 0
 ·exact .inl ⟨h, if_pos h⟩
 ·obtain ⟨z, hz⟩ : ∃ z, xs[k - 1]? = some z := ⟨_, List.getElem?_eq_getElem (by omega)⟩
  refine .inr ⟨z, by omega, hz, ?_⟩
  have := lastTag_succ hz
  rwa [show k - 1 + 1 = k from by omega] at this

/-- The spaces of the first k owners. -/
def spacesUp (xs : List OwnD) (k : Nat) : List Int := ((xs.take k).map (·.space)).reverse
theorem spacesUp_succ {xs : List OwnD} {k : Nat} {x : OwnD} (h : xs[k]? = some x) : spacesUp xs (k + 1) = x.space :: spacesUp xs k := by
 unfold spacesUp; rw [take_succ_of h]; simp
theorem mem_spacesUp {xs : List OwnD} {k : Nat} {s : Int} : s ∈ spacesUp xs k ↔ ∃ j y, j < k ∧ xs[j]? = some y ∧ y.space = s := by
 unfold spacesUp
 simp only [List.mem_reverse, List.mem_map]
 constructor
 ·rintro ⟨y, hy, rfl⟩
  obtain ⟨j, hj, e⟩ := List.getElem_of_mem hy
  rw [List.length_take] at hj
  refine ⟨j, y, by omega, ?_, rfl⟩
  have : (xs.take k)[j]? = some y := by rw [List.getElem?_eq_getElem (by rw [List.length_take]; omega), e]
  rw [List.getElem?_take] at this
  split at this
  ·exact this
  ·cases this
 ·rintro ⟨j, y, hj, hy, rfl⟩
  refine ⟨y, ?_, rfl⟩
  apply List.mem_of_getElem? (i := j)
  rw [List.getElem?_take, if_pos hj, hy]

theorem own_step {t : TagsD} {k : Nat} {x : OwnD} (h : OwnsUp t k) (hx : t.owns[k]? = some x) (h1 : lastTag t.owns k < x.tag) (h2 : x.tag < t.next) (h3 : inB x.space 16 = true) (h4 : decide (x.space ∈ spacesUp t.owns k) = false) : OwnsUp t (k + 1) := by
 have hk := getElem?_lt hx
 have h3' := inB_true.1 h3
 have h0 : -1 ≤ lastTag t.owns k := by
  rcases lastTag_or t.owns (k := k) (by omega) with ⟨_, e⟩ | ⟨y, hp, hy, e⟩
  ·omega
  ·have := (h (k - 1) y (by omega) hy).1.1
   omega
 refine ownsUp_succ h hx ⟨by omega, h2, h3'.1, h3'.2⟩ fun j y hj hy => ⟨by have := lastTag_le h (by omega) hj hy; omega, fun e => ?_⟩
 have : x.space ∈ spacesUp t.owns k := mem_spacesUp.2 ⟨j, y, hj, hy, e⟩
 simp [this] at h4

theorem own_bad_last {t : TagsD} {k : Nat} {x : OwnD} (hx : t.owns[k]? = some x) (h1 : x.tag ≤ lastTag t.owns k) : tagsV t = false :=
 tagsV_bad hx fun h => by
  have hk := getElem?_lt hx
  rcases lastTag_or t.owns (k := k) (by omega) with ⟨_, e⟩ | ⟨y, hp, hy, e⟩
  ·have := h.1.1; omega
  ·have := (h.2 (k - 1) y (by omega) hy).1; omega
theorem own_bad_next {t : TagsD} {k : Nat} {x : OwnD} (hx : t.owns[k]? = some x) (h1 : t.next ≤ x.tag) : tagsV t = false :=
 tagsV_bad hx fun h => by have := h.1.2.1; omega
theorem own_bad_space {t : TagsD} {k : Nat} {x : OwnD} (hx : t.owns[k]? = some x) (h1 : inB x.space 16 = false) : tagsV t = false :=
 tagsV_bad hx fun h => by have := inB_false.1 h1; exact this ⟨h.1.2.2.1, h.1.2.2.2⟩
theorem own_bad_twice {t : TagsD} {k : Nat} {x : OwnD} (hx : t.owns[k]? = some x) (h1 : decide (x.space ∈ spacesUp t.owns k) = true) : tagsV t = false :=
 tagsV_bad hx fun h => by
  obtain ⟨j, y, hj, hy, e⟩ := mem_spacesUp.1 (of_decide_eq_true h1)
  exact (h.2 j y hj hy).2 e

set_option maxHeartbeats 2000000 in
theorem tagsValidI_c (t : TagsD) (A : Option Addr) (c : Nat) (w : World) (hx : Rd w A t.owns) (hn : t.owns.length ≤ 1048576) (hc : t.owns.length ≤ c) :
  Calls Tryz.prog 26 #[.agg #[.int .i64 t.count, .int .i64 t.next, .int .i64 t.round, .slice A t.owns.length c]] w fun r w' => r = .returned (.bool (tagsV t)) ∧ Ex w w' := by
 have B0 := zq (@tagsV_bad_head t)
 have B1 := zq (fun k x => @own_bad_last t k x)
 have B2 := zq (fun k x => @own_bad_next t k x)
 have B3 := zq (fun k x => @own_bad_space t k x)
 have B4 := zq (fun k x => @own_bad_twice t k x)
 have B5 := zq (@tagsV_end t)
 have B6 := zq (fun k x => @own_step t k x)
 have B7 := zq (ownsUp_zero t)
 obtain ⟨cnt, nxt, rnd, xs⟩ := t
 unfold TagsHead at B0 B5
 simp only at B0 B1 B2 B3 B4 B5 B6 hx hn hc ⊢
 generalize hOK : OwnsUp ⟨cnt, nxt, rnd, xs⟩ = OK at *
 clear hOK
 generalize tagsV ⟨cnt, nxt, rnd, xs⟩ = res at *
 obtain ⟨n, hn1⟩ : ∃ n, n = xs.length := ⟨_, rfl⟩
 have HN := zq hn1
 rw [← hn1] at B5 hn hc ⊢
 have HX := zq hx
 clear hn1 hx
 by_cases g1 : cnt < 1
 ·obtain rfl : res = false := B0.out (by omega)
  go_enter Tryz.func26, Tryz.ntmps26
  go_wp2
  go_ret
  exact ⟨rfl, (Ex.refl _).alloc _⟩
 by_cases g2 : 8 < cnt
 ·have g1' : 1 ≤ cnt := by omega
  obtain rfl : res = false := B0.out (by omega)
  go_enter Tryz.func26, Tryz.ntmps26
  go_wp2
  go_ret
  exact ⟨rfl, (Ex.refl _).alloc _⟩
 have g1' : 1 ≤ cnt := by omega
 have g2' : cnt ≤ 8 := by omega
 by_cases g3 : nxt < 0
 ·obtain rfl : res = false := B0.out (by omega)
  go_enter Tryz.func26, Tryz.ntmps26
  go_wp2
  go_ret
  exact ⟨rfl, (Ex.refl _).alloc _⟩
 have g3' : 0 ≤ nxt := by omega
 by_cases g4 : cnt < nxt
 ·obtain rfl : res = false := B0.out (by omega)
  go_enter Tryz.func26, Tryz.ntmps26
  go_wp2
  go_ret
  exact ⟨rfl, (Ex.refl _).alloc _⟩
 have g4' : nxt ≤ cnt := by omega
 by_cases g5 : rnd < 0
 ·obtain rfl : res = false := B0.out (by omega)
  go_enter Tryz.func26, Tryz.ntmps26
  go_wp2
  go_ret
  exact ⟨rfl, (Ex.refl _).alloc _⟩
 have g5' : 0 ≤ rnd := by omega
 by_cases g6 : 1000000 < rnd
 ·obtain rfl : res = false := B0.out (by omega)
  go_enter Tryz.func26, Tryz.ntmps26
  go_wp2
  go_ret
  exact ⟨rfl, (Ex.refl _).alloc _⟩
 have g6' : rnd ≤ 1000000 := by omega
 have HS : Hid (1 ≤ cnt ∧ cnt ≤ 8 ∧ 0 ≤ nxt ∧ nxt ≤ cnt ∧ 0 ≤ rnd ∧ rnd ≤ 1000000) := zq (by omega)
 have d1 : decide (cnt < 1) = false := by simp; omega
 have d2 : decide (8 < cnt) = false := by simp; omega
 have d3 : decide (nxt < 0) = false := by simp; omega
 have d4 : decide (cnt < nxt) = false := by simp; omega
 have d5 : decide (rnd < 0) = false := by simp; omega
 have d6 : decide (1000000 < rnd) = false := by simp; omega
 clear g1 g2 g3 g4 g5 g6 B0 g1' g2' g3' g4' g5' g6'
 have hmm := @run_makeMap Tryz.prog
 go_enter Tryz.func26, Tryz.ntmps26
 go_wp2
 clear hmm
 clear d1 d2 d3 d4 d5 d6
 obtain ⟨w0, hw0⟩ : ∃ w0 : World, w0 = (w.alloc (.cells #[.int .i64 cnt, .int .i64 nxt, .int .i64 rnd, .slice A n c] 32)).alloc (.map #[] 0) := ⟨_, rfl⟩
 obtain ⟨gb, hgb⟩ : ∃ gb : Nat, gb = w.heap.size := ⟨_, rfl⟩
 obtain ⟨gm, hgm⟩ : ∃ gm : Nat, gm = w.heap.size + 1 := ⟨_, rfl⟩
 have K0 : Hid (Blk w0 gb 32 [.int .i64 cnt, .int .i64 nxt, .int .i64 rnd, .slice A n c]) := zq (by rw [hw0, hgb]; exact (Blk.new w _ _).alloc _)
 have E0 : Hid (Ex w w0) := zq (by rw [hw0]; exact ((Ex.refl w).alloc _).alloc _)
 have M0 : Hid (HasInts w0 gm 0 []) := zq (by
  have := HasInts.made (w.alloc (.cells #[.int .i64 cnt, .int .i64 nxt, .int .i64 rnd, .slice A n c] 32))
  rw [hw0, hgm]; simpa using this)
 have hne : Hid (gb ≠ gm) := zq (by omega)
 have hge : Hid (w.heap.size ≤ gm) := zq (by omega)
 rw [← hw0, ← hgm, ← hgb]
 clear hw0 hgm hgb
 go_loopw [41, 4] (fun i l wr => ∃ k : Nat, k ≤ n ∧ i = .int .i64 k ∧ l = .int .i64 (lastTag xs k) ∧ Ex w wr ∧ Blk wr gb 32 [.int .i64 cnt, .int .i64 nxt, .int .i64 rnd, .slice A n c] ∧ HasInts wr gm k (spacesUp xs k) ∧ OK k) (fun i _ _ => n - (intOf i).toNat)
 case atStart => exact ⟨0, Nat.zero_le _, rfl, rfl, E0.out, K0.out, M0.out, B7.out⟩
 case round =>
  obtain ⟨k, hk, rfl, rfl, hbel, hkb, hmap, hok⟩ := hrel
  have HB := zq hbel
  have KB := zq hkb
  have MB := zq hmap
  have HOK := zq hok
  clear hbel hkb hmap hok
  obtain ⟨q0, q1, q2, q3⟩ := KB.out.c4
  have lb := KB.out.lt
  by_cases hlt : k < n
  ·obtain ⟨b1, o1, x, rfl, hb1, hxk, h0, h1⟩ := Rd.own (HX.out.ex HB.out) (k := k) (by have := HN.out; omega)
   have HXK := zq hxk
   clear hxk
   have HLS := zq (lastTag_succ HXK.out)
   have HSS := zq (spacesUp_succ HXK.out)
   have B1k := zq (B1.out k x HXK.out)
   have B4k := zq (B4.out k x HXK.out)
   have B6k := zq (B6.out k x HOK.out HXK.out)
   generalize lastTag xs k = la at *
   generalize spacesUp xs k = sp at *
   by_cases t1 : x.tag ≤ la
   ·obtain rfl : res = false := B1k.out t1
    go_wp2
    go_ret
    exact ⟨rfl, HB.out.alloc _⟩
   have t1' : ¬ x.tag ≤ la := t1
   by_cases t2 : nxt ≤ x.tag
   ·obtain rfl : res = false := B2.out k x HXK.out t2
    go_wp2
    go_ret
    exact ⟨rfl, HB.out.alloc _⟩
   have t2' : ¬ nxt ≤ x.tag := t2
   cases t3 : inB x.space 16
   ·obtain rfl : res = false := B3.out k x HXK.out t3
    go_wp2_with (go_at_call 16; refine (within_c _ _ _).mono ?_; rintro r w' ⟨rfl, rfl⟩)
    go_ret
    exact ⟨rfl, HB.out.alloc _⟩
   have hwf : (Lit.int .i64 x.space).wf = true := WalkArith.wf_i64 (by have := inB_true.1 t3; omega)
   have HWF := zq hwf
   clear hwf
   obtain ⟨wz, hwz⟩ : ∃ wz : World, wz = wr.alloc (.cells #[.int .i64 x.space, .int .i64 x.tag] 93) := ⟨_, rfl⟩
   have hlk := (MB.out.ex ((Ex.refl wr).alloc (.cells #[.int .i64 x.space, .int .i64 x.tag] 93))).look x.space HWF.out
   cases t4 : decide (x.space ∈ sp)
   rotate_left
   ·obtain rfl : res = false := B4k.out t4
    rw [t4] at hlk
    go_wp2_with (go_at_call 16; refine (within_c _ _ _).mono ?_; rintro r w' ⟨rfl, rfl⟩)
    go_ret
    exact ⟨rfl, HB.out.alloc _⟩
   ·rw [t4] at hlk
    have HOK2 := zq (B6k.out (by omega) (by omega) t3 t4)
    clear hwz
    have MZ := zq (MB.out.ex ((Ex.refl wr).alloc (.cells #[.int .i64 x.space, .int .i64 x.tag] 93)))
    go_wp2_with (first | (go_at_call 16; refine (within_c _ _ _).mono ?_; rintro r w' ⟨rfl, rfl⟩) | (at_mapUpdate; go_must (refine wpList_put_int _ rfl _ _ _ rfl gm k sp rfl MZ.out (by simp only [maxLen]; omega) x.space rfl rfl HWF.out ?_); intro w3 hs3 hg3))
    go_roundw
    case rel => exact ⟨k + 1, by omega, by go_num, by rw [HLS.out], (HB.out.alloc _).grown hg3 (fun g hg => by injection hg with hg; have := hge.out; omega), (KB.out.alloc _).grown hg3 (by intro e; injection e with e; exact hne.out e), by rw [HSS.out]; exact hs3, HOK2.out⟩
    case measure => simp [intOf]; omega
  ·obtain rfl : k = n := by omega
   obtain rfl : res = true := B5.out HS.out HOK.out
   go_wp2
   go_ret
   exact ⟨rfl, HB.out⟩
end Go.Proofs.YtbdlpbladpppjaaGreatDoor
