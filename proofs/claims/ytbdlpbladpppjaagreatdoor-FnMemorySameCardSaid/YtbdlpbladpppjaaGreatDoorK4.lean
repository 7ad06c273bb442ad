/- Joined: Ts, To, Tw. -/
import Derived.Deep.RegionHeld3
import Derived.Test.YtbdlpbladpppjaaGreatDoorK3
import Derived.Test.YtbdlpbladpppjaaGreatDoorK2
import Derived.Test.YtbdlpbladpppjaaGreatDoorK1
namespace Go.Proofs.YtbdlpbladpppjaaGreatDoor
open Go.ChangeShapes Go.WideShapes Go.ChangeAt Go.RowKit
open Rec (sz cs)
set_option linter.unusedVariables false
set_option maxRecDepth 100000

theorem l1Space_q (n : Int) (w : World) : Calls Tryz.prog 77 #[.int .i64 n] w fun r w' => r = .returned (.bool (inB n 16)) ∧ w' = w :=
 (l1Space_c n w).mono fun _ _ ⟨h1, h2⟩ => ⟨h1, h2.symm⟩

theorem tagsV_bad_len {t : TagsD} (h : t.next < t.owns.length) : tagsV t = false := by
 cases h2 : tagsV t
 ·rfl
 ·have := (tagsV_iff t).1 h2
  have h3 := ownsUp_len this.2 this.1.2.2.1
  omega

theorem own_bad_neg {t : TagsD} {k : Nat} {x : OwnD} (hx : t.owns[k]? = some x) (h1 : x.tag < 0) : tagsV t = false :=
 tagsV_bad hx fun h => by have := h.1.1; omega
theorem own_bad_same {t : TagsD} {k j : Nat} {x y : OwnD} (hx : t.owns[k]? = some x) (hy : t.owns[j]? = some y) (hj : j < k) (h1 : y.space = x.space) : tagsV t = false :=
 tagsV_bad hx fun h => (h.2 j y hj hy).2 h1
theorem own_step' {t : TagsD} {k : Nat} {x : OwnD} (h : OwnsUp t k) (hx : t.owns[k]? = some x) (h0 : 0 ≤ x.tag) (h1 : lastTag t.owns k < x.tag) (h2 : x.tag < t.next) (h3 : inB x.space 16 = true) (h4 : ∀ j y, j < k → t.owns[j]? = some y → y.space ≠ x.space) : OwnsUp t (k + 1) := by
 have hk := getElem?_lt hx
 have h3' := inB_true.1 h3
 exact ownsUp_succ h hx ⟨h0, h2, h3'.1, h3'.2⟩ fun j y hj hy => ⟨by have := lastTag_le h (by omega) hj hy; omega, h4 j y hj hy⟩

set_option maxHeartbeats 4000000 in
theorem tagsValidS_c (t : TagsD) (A : Option Addr) (c : Nat) (w : World) (hx : Rd w A t.owns) (hn : t.owns.length ≤ 1048576) (hc : t.owns.length ≤ c) :
  Calls Tryz.prog 48 #[.agg #[.int .i64 t.count, .int .i64 t.next, .int .i64 t.round, .slice A t.owns.length c]] w fun r w' => r = .returned (.bool (tagsV t)) ∧ Ex w w' := by
 have B0 := zq (@tagsV_bad_head t)
 have B1 := zq (fun k x => @own_bad_last t k x)
 have B2 := zq (fun k x => @own_bad_next t k x)
 have B3 := zq (fun k x => @own_bad_space t k x)
 have B4 := zq (fun k j x y => @own_bad_same t k j x y)
 have B5 := zq (@tagsV_end t)
 have B6 := zq (fun k x => @own_step' t k x)
 have B7 := zq (ownsUp_zero t)
 have B8 := zq (@tagsV_bad_len t)
 have B9 := zq (fun k x => @own_bad_neg t k x)
 obtain ⟨cnt, nxt, rnd, xs⟩ := t
 unfold TagsHead at B0 B5
 simp only at B0 B1 B2 B3 B4 B5 B6 B8 B9 hx hn hc ⊢
 generalize hOK : OwnsUp ⟨cnt, nxt, rnd, xs⟩ = OK at *
 clear hOK
 generalize tagsV ⟨cnt, nxt, rnd, xs⟩ = res at *
 have HLO := zq (fun k (h : k ≤ xs.length) => lastTag_or xs (k := k) h)
 obtain ⟨n, hn1⟩ : ∃ n, n = xs.length := ⟨_, rfl⟩
 have HN := zq hn1
 rw [← hn1] at B5 B8 HLO hn hc ⊢
 have HX := zq hx
 clear hn1 hx
 by_cases g1 : cnt < 1
 ·obtain rfl : res = false := B0.out (by omega)
  go_enter Tryz.func48, Tryz.ntmps48
  go_wp2
  go_ret
  exact ⟨rfl, (Ex.refl _).alloc _⟩
 by_cases g2 : 8 < cnt
 ·have g1' : 1 ≤ cnt := by omega
  obtain rfl : res = false := B0.out (by omega)
  go_enter Tryz.func48, Tryz.ntmps48
  go_wp2
  go_ret
  exact ⟨rfl, (Ex.refl _).alloc _⟩
 have g1' : 1 ≤ cnt := by omega
 have g2' : cnt ≤ 8 := by omega
 by_cases g3 : nxt < 0
 ·obtain rfl : res = false := B0.out (by omega)
  go_enter Tryz.func48, Tryz.ntmps48
  go_wp2
  go_ret
  exact ⟨rfl, (Ex.refl _).alloc _⟩
 have g3' : 0 ≤ nxt := by omega
 by_cases g4 : cnt < nxt
 ·obtain rfl : res = false := B0.out (by omega)
  go_enter Tryz.func48, Tryz.ntmps48
  go_wp2
  go_ret
  exact ⟨rfl, (Ex.refl _).alloc _⟩
 have g4' : nxt ≤ cnt := by omega
 by_cases g5 : rnd < 0
 ·obtain rfl : res = false := B0.out (by omega)
  go_enter Tryz.func48, Tryz.ntmps48
  go_wp2
  go_ret
  exact ⟨rfl, (Ex.refl _).alloc _⟩
 have g5' : 0 ≤ rnd := by omega
 by_cases g6 : 1000000 < rnd
 ·obtain rfl : res = false := B0.out (by omega)
  go_enter Tryz.func48, Tryz.ntmps48
  go_wp2
  go_ret
  exact ⟨rfl, (Ex.refl _).alloc _⟩
 have g6' : rnd ≤ 1000000 := by omega
 by_cases g7 : nxt < n
 ·obtain rfl : res = false := B8.out g7
  go_enter Tryz.func48, Tryz.ntmps48
  go_wp2
  go_ret
  exact ⟨rfl, (Ex.refl _).alloc _⟩
 have g7' : (n : Int) ≤ nxt := by omega
 have HS : Hid (1 ≤ cnt ∧ cnt ≤ 8 ∧ 0 ≤ nxt ∧ nxt ≤ cnt ∧ 0 ≤ rnd ∧ rnd ≤ 1000000) := zq (by omega)
 have d1 : decide (cnt < 1) = false := by simp; omega
 have d2 : decide (8 < cnt) = false := by simp; omega
 have d3 : decide (nxt < 0) = false := by simp; omega
 have d4 : decide (cnt < nxt) = false := by simp; omega
 have d5 : decide (rnd < 0) = false := by simp; omega
 have d6 : decide (1000000 < rnd) = false := by simp; omega
 have d7 : decide (nxt < (n : Int)) = false := by simp; omega
 clear g1 g2 g3 g4 g5 g6 g7 B0 g1' g2' g3' g4' g5' g6' g7' B8
 go_enter Tryz.func48, Tryz.ntmps48
 go_wp2
 clear d1 d2 d3 d4 d5 d6 d7
 obtain ⟨w0, hw0⟩ : ∃ w0 : World, w0 = w.alloc (.cells #[.int .i64 cnt, .int .i64 nxt, .int .i64 rnd, .slice A n c] 32) := ⟨_, rfl⟩
 obtain ⟨gb, hgb⟩ : ∃ gb : Nat, gb = w.heap.size := ⟨_, rfl⟩
 have K0 : Hid (Blk w0 gb 32 [.int .i64 cnt, .int .i64 nxt, .int .i64 rnd, .slice A n c]) := zq (by rw [hw0, hgb]; exact Blk.new w _ _)
 have E0 : Hid (Ex w w0) := zq (by rw [hw0]; exact (Ex.refl w).alloc _)
 rw [← hw0, ← hgb]
 clear hw0 hgb
 go_loopw [3] (fun i wr => ∃ k : Nat, k ≤ n ∧ i = .int .i64 k ∧ Ex w0 wr ∧ OK k) (fun i _ => n - (intOf i).toNat)
 case atStart => exact ⟨0, Nat.zero_le _, rfl, Ex.refl _, B7.out⟩
 case round =>
  obtain ⟨k, hk, rfl, hbel, hok⟩ := hrel
  have HB := zq hbel
  have HOK := zq hok
  have HKB := zq (K0.out.ex HB.out)
  clear hbel hok
  obtain ⟨q0, q1, q2, q3⟩ := HKB.out.c4
  have lb := HKB.out.lt
  by_cases hlt : k < n
  ·obtain ⟨b1, o1, x, rfl, hb1, hxk, h0, h1⟩ := Rd.own ((HX.out.ex E0.out).ex HB.out) (k := k) (by have := HN.out; omega)
   have HXK := zq hxk
   clear hxk
   cases t3 : inB x.space 16
   ·obtain rfl : res = false := B3.out k x HXK.out t3
    go_wp2
    go_quiet ((go_at_call 77; exact Calls.quiet_of_same (l1Space_q _ _)))
    go_wp2
    go_ret
    exact ⟨rfl, ((E0.out.trans HB.out).alloc _).drewN _⟩
   by_cases t1 : x.tag < 0
   ·obtain rfl : res = false := B9.out k x HXK.out t1
    have t1b : decide (x.tag < 0) = true := by simp; omega
    go_wp2
    go_quiet ((go_at_call 77; exact Calls.quiet_of_same (l1Space_q _ _)))
    go_wp2
    go_ret
    exact ⟨rfl, ((E0.out.trans HB.out).alloc _).drewN _⟩
   have t1b : decide (x.tag < 0) = false := by simp; omega
   by_cases t2 : nxt ≤ x.tag
   ·obtain rfl : res = false := B2.out k x HXK.out t2
    have t2b : decide (nxt ≤ x.tag) = true := by simp; omega
    go_wp2
    go_quiet ((go_at_call 77; exact Calls.quiet_of_same (l1Space_q _ _)))
    go_wp2
    go_ret
    exact ⟨rfl, ((E0.out.trans HB.out).alloc _).drewN _⟩
   have t2b : decide (nxt ≤ x.tag) = false := by simp; omega
   rcases HLO.out k (by omega) with ⟨hk0, hla⟩ | ⟨y, hk0, hy, hla⟩
   ·subst hk0
    have HLT : Hid (lastTag xs 0 < x.tag) := zq (by omega)
    clear hla
    simp only [Nat.zero_mul, Nat.add_zero] at h0 h1
    go_wp2_with fail
    go_quiet ((go_at_call 77; exact Calls.quiet_of_same (l1Space_q _ _)))
    obtain ⟨w2, hw2⟩ : ∃ w2 : World, w2 = (wr.alloc (.cells #[.int .i64 x.space, .int .i64 x.tag] 93)).drewN nq := ⟨_, rfl⟩
    obtain ⟨gx, hgx⟩ : ∃ gx : Nat, gx = wr.heap.size := ⟨_, rfl⟩
    have HB2 : Hid (Ex wr w2) := zq (by rw [hw2]; exact ((Ex.refl wr).alloc _).drewN _)
    have KX : Hid (Blk w2 gx 93 [.int .i64 x.space, .int .i64 x.tag]) := zq (by rw [hw2, hgx]; exact (Blk.new wr _ _).drewN _)
    rw [← hw2, ← hgx]
    clear hw2 hgx
    have KB2 := zq (HKB.out.ex HB2.out)
    have HE2 : Hid (Ex w w2) := zq ((E0.out.trans HB.out).trans HB2.out)
    have HW2 : Hid (Ex w0 w2) := zq (HB.out.trans HB2.out)
    have HX2 : Hid (Rd w2 (some ⟨b1, o1, none⟩) xs) := zq (HX.out.ex HE2.out)
    have HC : Hid (∀ (j : Nat) (y : OwnD), j < 0 → xs[j]? = some y → y.space ≠ x.space) := zq (fun j y h => by omega)
    clear HB HB2 HKB
    go_wp2
    go_loopw [5] (fun j wi => ∃ m : Nat, m ≤ 0 ∧ j = .int .i64 m ∧ Ex w2 wi ∧ ∀ (j : Nat) (y : OwnD), j < m → xs[j]? = some y → y.space ≠ x.space) (fun j _ => 0 - (intOf j).toNat)
    case atStart => exact ⟨0, Nat.zero_le _, rfl, Ex.refl _, HC.out⟩
    case round =>
     obtain ⟨m, hm, rfl, hbi, hcl⟩ := hrel
     have HBI := zq hbi
     have HCL := zq hcl
     clear hbi hcl
     obtain ⟨p0, p1⟩ := (KX.out.ex HBI.out).c2
     have lx := (KX.out.ex HBI.out).lt
     obtain ⟨q0, q1, q2, q3⟩ := (KB2.out.ex HBI.out).c4
     have lb := (KB2.out.ex HBI.out).lt
     by_cases hlm : m < 0
     ·omega
     ·have hmk : m = 0 := by omega
      have HOK2 : Hid (OK (0 + 1)) := zq (B6.out 0 x HOK.out HXK.out (by omega) HLT.out (by omega) t3 (fun j y hj hy => HCL.out j y (by omega) hy))
      have HMK := zq hmk
      clear hmk
      go_wp2
      go_roundw
      case rel => exact ⟨0 + 1, by omega, by go_num, HW2.out.trans HBI.out, HOK2.out⟩
      case measure => simp [intOf]; omega
   ·obtain ⟨k', rfl⟩ : ∃ k', k = k' + 1 := ⟨k - 1, by omega⟩
    have hkk : k' + 1 - 1 = k' := by omega
    rw [hkk] at hy
    clear hkk
    obtain ⟨y', hb2, hyk', y0, y1⟩ := Rd.own_known ((HX.out.ex E0.out).ex HB.out) (k := k') (by have := HN.out; omega)
    have e : y' = y := by rw [hy] at hyk'; injection hyk' with e; exact e.symm
    subst e
    have HYP := zq hy
    have HLA := zq hla
    clear hy hyk' hla y0
    have hkp : decide ((0 : Int) < ((k' + 1 : Nat) : Int)) = true := by simp
    have hsub : IntKind.i64.wrap (((k' + 1 : Nat) : Int) - 1) = (k' : Int) := by rw [show ((k' + 1 : Nat) : Int) - 1 = (k' : Int) from by omega]; exact IntWalk.i64_in _ (by omega)
    have hk'n : (k' : Int) < (n : Int) := by omega
    have hk'0 : (0 : Int) < (k' : Int) + 1 := by omega
    by_cases t4 : x.tag ≤ y'.tag
    ·obtain rfl : res = false := B1.out (k' + 1) x HXK.out (by rw [HLA.out]; exact t4)
     have t4b : decide (x.tag ≤ y'.tag) = true := by simp; omega
     go_wp2_with fail
     go_quiet ((go_at_call 77; exact Calls.quiet_of_same (l1Space_q _ _)))
     go_wp2
     go_ret
     exact ⟨rfl, ((E0.out.trans HB.out).alloc _).drewN _⟩
    ·have t4b : decide (x.tag ≤ y'.tag) = false := by simp; omega
     have HLT : Hid (lastTag xs (k' + 1) < x.tag) := zq (by rw [HLA.out]; omega)
     go_wp2_with fail
     go_quiet ((go_at_call 77; exact Calls.quiet_of_same (l1Space_q _ _)))
     clear hsub t4b hkp
     obtain ⟨w2, hw2⟩ : ∃ w2 : World, w2 = (wr.alloc (.cells #[.int .i64 x.space, .int .i64 x.tag] 93)).drewN nq := ⟨_, rfl⟩
     obtain ⟨gx, hgx⟩ : ∃ gx : Nat, gx = wr.heap.size := ⟨_, rfl⟩
     have HB2 : Hid (Ex wr w2) := zq (by rw [hw2]; exact ((Ex.refl wr).alloc _).drewN _)
     have KX : Hid (Blk w2 gx 93 [.int .i64 x.space, .int .i64 x.tag]) := zq (by rw [hw2, hgx]; exact (Blk.new wr _ _).drewN _)
     rw [← hw2, ← hgx]
     clear hw2 hgx
     have KB2 := zq (HKB.out.ex HB2.out)
     have HE2 : Hid (Ex w w2) := zq ((E0.out.trans HB.out).trans HB2.out)
     have HW2 : Hid (Ex w0 w2) := zq (HB.out.trans HB2.out)
     have HX2 : Hid (Rd w2 (some ⟨b1, o1, none⟩) xs) := zq (HX.out.ex HE2.out)
     have HC : Hid (∀ (j : Nat) (y : OwnD), j < 0 → xs[j]? = some y → y.space ≠ x.space) := zq (fun j y h => by omega)
     clear HB HB2 HKB
     go_wp2
     go_loopw [5] (fun j wi => ∃ m : Nat, m ≤ (k' + 1) ∧ j = .int .i64 m ∧ Ex w2 wi ∧ ∀ (j : Nat) (y : OwnD), j < m → xs[j]? = some y → y.space ≠ x.space) (fun j _ => (k' + 1) - (intOf j).toNat)
     case atStart => exact ⟨0, Nat.zero_le _, rfl, Ex.refl _, HC.out⟩
     case round =>
      obtain ⟨m, hm, rfl, hbi, hcl⟩ := hrel
      have HBI := zq hbi
      have HCL := zq hcl
      clear hbi hcl
      obtain ⟨p0, p1⟩ := (KX.out.ex HBI.out).c2
      have lx := (KX.out.ex HBI.out).lt
      obtain ⟨q0, q1, q2, q3⟩ := (KB2.out.ex HBI.out).c4
      have lb := (KB2.out.ex HBI.out).lt
      by_cases hlm : m < (k' + 1)
      ·obtain ⟨y, hb1', hyk, y0, y1⟩ := Rd.own_known (HX2.out.ex HBI.out) (k := m) (by have := HN.out; omega)
       have HYK := zq hyk
       clear hyk
       have hmn : (m : Int) < (n : Int) := by omega
       cases hys : (y.space == x.space)
       ·have HYS := zq hys
        go_wp2_with fail
        go_quiet (fail)
        go_wp2
        go_roundw
        case rel => exact ⟨m + 1, by omega, by go_num, HBI.out.drewN _, fun j z hj hz => by
         by_cases e : j = m
         ·subst e
          have := HYK.out
          rw [this] at hz
          injection hz with hz
          have h2 := HYS.out
          rw [← hz]; simpa using h2
         ·exact HCL.out j z (by omega) hz⟩
        case measure => simp [intOf]; omega
       ·obtain rfl : res = false := B4.out (k' + 1) m x y HXK.out HYK.out hlm (by simpa using hys)
        go_wp2_with fail
        go_quiet (fail)
        go_wp2
        go_ret
        exact ⟨rfl, (HE2.out.trans HBI.out).drewN _⟩
      ·have hmk : m = (k' + 1) := by omega
       have HOK2 : Hid (OK ((k' + 1) + 1)) := zq (B6.out (k' + 1) x HOK.out HXK.out (by omega) HLT.out (by omega) t3 (fun j y hj hy => HCL.out j y (by omega) hy))
       have HMK := zq hmk
       clear hmk
       go_wp2
       go_roundw
       case rel => exact ⟨(k' + 1) + 1, by omega, by go_num, HW2.out.trans HBI.out, HOK2.out⟩
       case measure => simp [intOf]; omega
  ·obtain rfl : k = n := by omega
   obtain rfl : res = true := B5.out HS.out HOK.out
   go_wp2
   go_ret
   exact ⟨rfl, E0.out.trans HB.out⟩

set_option maxHeartbeats 1000000 in
theorem own1_c (x : OwnD) (s : Int) (w : World) (gs : Nat) (hs : Blk w gs 3 [.int .i64 s]) :
  Calls Tryz.prog 58 #[.agg #[.int .i64 x.space, .int .i64 x.tag], .pointer (some ⟨gs, 0, none⟩)] w fun r w' => r = .returned (.bool (x.space == s)) ∧ Ex w w' := by
 obtain s0 := hs.c1
 have ls := hs.lt
 clear hs
 go_enter Tryz.func58, Tryz.ntmps58
 go_wp2
 go_ret
 exact ⟨rfl, (Ex.refl _).alloc _⟩

set_option maxHeartbeats 1000000 in
theorem indexOwn_c (xs : List OwnD) (s : Int) (A : Option Addr) (c : Nat) (w : World) (gs : Nat) (hx : Rd w A xs) (hn : xs.length ≤ 1048576) (hs : Blk w gs 3 [.int .i64 s]) :
  Calls Tryz.prog 57 #[.slice A xs.length c, .func (.func 58) #[] #[.pointer (some ⟨gs, 0, none⟩)]] w fun r w' => r = .returned (.int .i64 (ownPlace xs s)) ∧ Ex w w' := by
 have B1 := zq (fun k x => @firstOf_at _ (fun x : OwnD => x.space == s) xs k x)
 have B2 := zq (@firstOf_none _ (fun x : OwnD => x.space == s) xs)
 unfold ownPlace
 generalize firstOf (fun x : OwnD => x.space == s) xs = res at *
 obtain ⟨n, hn1⟩ : ∃ n, n = xs.length := ⟨_, rfl⟩
 have HN := zq hn1
 rw [← hn1] at B2 hn ⊢
 have HX := zq hx
 have HS := zq hs
 clear hn1 hx hs
 go_enter Tryz.func57, Tryz.ntmps57
 go_wp2
 go_loopw [8] (fun i wr => ∃ k : Nat, k ≤ n ∧ i = .int .i64 k ∧ Ex w wr ∧ ∀ (j : Nat) (y : OwnD), j < k → xs[j]? = some y → (y.space == s) = false) (fun i _ => n - (intOf i).toNat)
 case atStart => exact ⟨0, Nat.zero_le _, rfl, Ex.refl _, fun j y h => by omega⟩
 case round =>
  obtain ⟨k, hk, rfl, hbel, hcl⟩ := hrel
  have HB := zq hbel
  have HCL := zq hcl
  clear hbel hcl
  by_cases hlt : k < n
  ·obtain ⟨b1, o1, x, rfl, hb1, hxk, h0, h1⟩ := Rd.own (HX.out.ex HB.out) (k := k) (by have := HN.out; omega)
   have HXK := zq hxk
   clear hxk
   go_wp2_with fail
   refine (own1_c x s _ _ (HS.out.ex HB.out)).mono ?_
   rintro r w2 ⟨rfl, hb2⟩
   have HB2 := zq hb2
   clear hb2 h0 h1
   cases hv : (x.space == s)
   ·have HV := zq hv
    clear hv
    go_wp2
    go_roundw
    case rel => exact ⟨k + 1, by omega, by go_num, HB.out.trans HB2.out, fun j z hj hz => by
     by_cases e : j = k
     ·subst e
      have := HXK.out
      rw [this] at hz
      injection hz with hz
      rw [← hz]; exact HV.out
     ·exact HCL.out j z (by omega) hz⟩
    case measure => simp [intOf]; omega
   ·obtain rfl : res = (k : Int) := B1.out k x HXK.out hv HCL.out
    clear hv
    go_wp2
    go_ret
    exact ⟨rfl, HB.out.trans HB2.out⟩
  ·obtain rfl : k = n := by omega
   obtain rfl : res = -1 := B2.out HCL.out
   go_wp2
   go_ret
   exact ⟨rfl, HB.out⟩

set_option maxHeartbeats 1000000 in
theorem ownI_c (t : TagsD) (s : Int) (A : Option Addr) (c : Nat) (w : World) (hx : Rd w A t.owns) (hn : t.owns.length ≤ 1048576) :
  Calls Tryz.prog 27 #[.agg #[.int .i64 t.count, .int .i64 t.next, .int .i64 t.round, .slice A t.owns.length c], .int .i64 s] w fun r w' => r = .returned (.int .i64 (ownPlace t.owns s)) ∧ Ex w w' := by
 have HX := zq hx
 clear hx
 have hmf : ∀ (fn : Fn) (first cap : Array Value) (w : World), (Instr.makeFunc fn first cap).run Tryz.prog w = .ok (.func fn first cap) w := fun _ _ _ _ => rfl
 go_enter Tryz.func27, Tryz.ntmps27
 go_wp2_with fail
 refine (indexOwn_c t.owns s A c _ _ ((HX.out.alloc _).alloc _) hn (Blk.new_at _ _ _ (by simp))).mono ?_
 rintro r w2 ⟨rfl, hb2⟩
 have HB2 : Hid (Ex w w2) := zq ((((Ex.refl w).alloc _).alloc _).trans hb2)
 clear hb2
 go_wp2
 go_ret
 exact ⟨rfl, HB2.out⟩

set_option maxHeartbeats 1000000 in
theorem l5Find_c (t : TagsD) (s : Int) (A : Option Addr) (c : Nat) (w : World) (hx : Rd w A t.owns) (hn : t.owns.length ≤ 1048576) :
  Calls Tryz.prog 49 #[.agg #[.int .i64 t.count, .int .i64 t.next, .int .i64 t.round, .slice A t.owns.length c], .int .i64 s] w fun r w' => r = .returned (.int .i64 (ownPlace t.owns s)) ∧ Ex w w' := by
 obtain ⟨cnt, nxt, rnd, xs⟩ := t
 simp only at hx hn ⊢
 have B1 := zq (fun k x => @firstOf_at _ (fun x : OwnD => x.space == s) xs k x)
 have B2 := zq (@firstOf_none _ (fun x : OwnD => x.space == s) xs)
 unfold ownPlace
 generalize firstOf (fun x : OwnD => x.space == s) xs = res at *
 obtain ⟨n, hn1⟩ : ∃ n, n = xs.length := ⟨_, rfl⟩
 have HN := zq hn1
 rw [← hn1] at B2 hn ⊢
 have HX := zq hx
 clear hn1 hx
 go_enter Tryz.func49, Tryz.ntmps49
 go_wp2
 obtain ⟨w0, hw0⟩ : ∃ w0 : World, w0 = w.alloc (.cells #[.int .i64 cnt, .int .i64 nxt, .int .i64 rnd, .slice A n c] 32) := ⟨_, rfl⟩
 have E0 : Hid (Ex w w0) := zq (by rw [hw0]; exact (Ex.refl _).alloc _)
 have K0 : Hid (Blk w0 w.heap.size 32 [.int .i64 cnt, .int .i64 nxt, .int .i64 rnd, .slice A n c]) := zq (by rw [hw0]; exact Blk.new _ _ _)
 rw [← hw0]
 clear hw0
 go_loopw [5] (fun i wr => ∃ k : Nat, k ≤ n ∧ i = .int .i64 k ∧ Ex w0 wr ∧ ∀ (j : Nat) (y : OwnD), j < k → xs[j]? = some y → (y.space == s) = false) (fun i _ => n - (intOf i).toNat)
 case atStart => exact ⟨0, Nat.zero_le _, rfl, Ex.refl _, fun j y h => by omega⟩
 case round =>
  obtain ⟨k, hk, rfl, hbel, hcl⟩ := hrel
  have HB := zq hbel
  have HCL := zq hcl
  clear hbel hcl
  obtain ⟨q0, q1, q2, q3⟩ := (K0.out.ex HB.out).c4
  have lb := (K0.out.ex HB.out).lt
  by_cases hlt : k < n
  ·obtain ⟨b1, o1, x, rfl, hb1, hxk, h0, h1⟩ := Rd.own ((HX.out.ex E0.out).ex HB.out) (k := k) (by have := HN.out; omega)
   have HXK := zq hxk
   clear hxk
   cases hv : (x.space == s)
   ·have HV := zq hv
    go_wp2
    go_roundw
    case rel => exact ⟨k + 1, by omega, by go_num, (ze HB.out), fun j z hj hz => by
     by_cases e : j = k
     ·subst e
      have := HXK.out
      rw [this] at hz
      injection hz with hz
      rw [← hz]; exact HV.out
     ·exact HCL.out j z (by omega) hz⟩
    case measure => simp [intOf]; omega
   ·obtain rfl : res = (k : Int) := B1.out k x HXK.out hv HCL.out
    go_wp2
    go_ret
    exact ⟨rfl, (ze (E0.out.trans HB.out))⟩
  ·obtain rfl : k = n := by omega
   obtain rfl : res = -1 := B2.out HCL.out
   go_wp2
   go_ret
   exact ⟨rfl, E0.out.trans HB.out⟩

set_option maxHeartbeats 2000000 in
theorem spaceOfI_c (t : TagsD) (g : Int) (A : Option Addr) (c : Nat) (w : World) (hx : Rd w A t.owns) (hn : t.owns.length ≤ 1048576) (hcap : t.owns.length ≤ c) :
  Calls Tryz.prog 28 #[.agg #[.int .i64 t.count, .int .i64 t.next, .int .i64 t.round, .slice A t.owns.length c], .int .i64 g] w fun r w' => r = .returned (.tuple #[.int .i64 (spaceOf t g).1, .bool (spaceOf t g).2]) ∧ Ex w w' := by
 have HX := zq hx
 clear hx
 cases hv : tagsV t
 ·have e : spaceOf t g = (0, false) := if_neg (fun h => by rw [hv] at h; cases h.1)
  rw [e]
  clear e
  go_enter Tryz.func28, Tryz.ntmps28
  go_wp2_with fail
  refine name_calls ?_; intro v1 hv1
  have X1 : Hid (Chg (0) (0) w v1) := zx hv1
  have t1 := X1.out.size
  have Ev1 := zq ((Ex.refl w).chg X1.out (by omega))
  have KX : Hid (Blk v1 (w.heap.size) 32 [.int .i64 t.count, .int .i64 t.next, .int .i64 t.round, .slice A t.owns.length c]) := zk hv1
  have lX : w.heap.size < v1.heap.size := KX.out.lt
  have DX := zq (HX.out.ex Ev1.out)
  clear hv1
  refine (tagsValidI_c t A c _ DX.out hn hcap).mono ?_; rintro r w1 ⟨rfl, hb1⟩
  have Y1 := zq (Chg.of_ex hb1)
  have s1 := Y1.out.size
  have Ew1 := zq (Ev1.out.chg Y1.out (by omega))
  clear hb1
  replace KX := zq (KX.out.chg Y1.out (by omega))
  replace DX := zq (HX.out.ex Ew1.out)
  obtain ⟨qX0, qX1, qX2, qX3⟩ := KX.out.c4
  have jX := KX.out.lt
  rw [hv]
  go_wp2
  go_ret2
  exact ⟨rfl, Ew1.out⟩
 have B1 : Hid (∀ (k : Nat) (x : OwnD), t.owns[k]? = some x → x.tag = g → spaceOf t g = (x.space, true)) := zq (fun k x hx e => by rw [← e]; exact spaceOf_of hv hx)
 have B2 : Hid ((∀ (j : Nat) (y : OwnD), j < t.owns.length → t.owns[j]? = some y → (y.tag == g) = false) → spaceOf t g = (0, false)) := zq (fun h => spaceOf_none fun j y hy => by have := h j y (getElem?_lt hy) hy; simpa using this)
 generalize spaceOf t g = res at *
 go_enter Tryz.func28, Tryz.ntmps28
 go_wp2_with fail
 refine name_calls ?_; intro v1 hv1
 have X1 : Hid (Chg (0) (0) w v1) := zx hv1
 have t1 := X1.out.size
 have Ev1 := zq ((Ex.refl w).chg X1.out (by omega))
 have KX : Hid (Blk v1 (w.heap.size) 32 [.int .i64 t.count, .int .i64 t.next, .int .i64 t.round, .slice A t.owns.length c]) := zk hv1
 have lX : w.heap.size < v1.heap.size := KX.out.lt
 have DX := zq (HX.out.ex Ev1.out)
 clear hv1
 refine (tagsValidI_c t A c _ DX.out hn hcap).mono ?_; rintro r w1 ⟨rfl, hb1⟩
 have Y1 := zq (Chg.of_ex hb1)
 have s1 := Y1.out.size
 have Ew1 := zq (Ev1.out.chg Y1.out (by omega))
 clear hb1
 replace KX := zq (KX.out.chg Y1.out (by omega))
 replace DX := zq (HX.out.ex Ew1.out)
 obtain ⟨qX0, qX1, qX2, qX3⟩ := KX.out.c4
 have jX := KX.out.lt
 rw [hv]
 obtain ⟨n, hn1⟩ : ∃ n, n = t.owns.length := ⟨_, rfl⟩
 have HN := zq hn1
 rw [← hn1] at B2 hn KX qX3 ⊢
 clear hn1
 go_wp2
 go_loopw [14] (fun i wr => ∃ k : Nat, k ≤ n ∧ i = .int .i64 k ∧ Ex w1 wr ∧ ∀ (j : Nat) (y : OwnD), j < k → t.owns[j]? = some y → (y.tag == g) = false) (fun i _ => n - (intOf i).toNat)
 case atStart => exact ⟨0, Nat.zero_le _, rfl, Ex.refl _, fun j y h => by omega⟩
 case round =>
  obtain ⟨k, hk, rfl, hbel, hcl⟩ := hrel
  have HB := zq hbel
  have HCL := zq hcl
  clear hbel hcl qX0 qX1 qX2 qX3 jX
  by_cases hlt : k < n
  ·obtain ⟨b1, o1, x, rfl, hb1, hxk, h0, h1⟩ := Rd.own (DX.out.ex HB.out) (k := k) (by have := HN.out; omega)
   have HXK := zq hxk
   clear hxk
   cases hv : (x.tag == g)
   ·have HV := zq hv
    go_wp2
    go_roundw
    case rel => exact ⟨k + 1, by omega, by go_num, (ze HB.out), fun j z hj hz => by
     by_cases e : j = k
     ·subst e
      have := HXK.out
      rw [this] at hz
      injection hz with hz
      rw [← hz]; exact HV.out
     ·exact HCL.out j z (by omega) hz⟩
    case measure => simp [intOf]; omega
   ·obtain rfl : res = (x.space, true) := B1.out k x HXK.out (by simpa using hv)
    go_wp2
    go_ret2
    exact ⟨rfl, (ze (Ew1.out.trans HB.out))⟩
  ·obtain rfl : k = n := by omega
   obtain rfl : res = (0, false) := B2.out HCL.out
   go_wp2
   go_ret2
   exact ⟨rfl, (ze (Ew1.out.trans HB.out))⟩

set_option maxHeartbeats 2000000 in
theorem spaceOfS_c (t : TagsD) (g : Int) (A : Option Addr) (c : Nat) (w : World) (hx : Rd w A t.owns) (hn : t.owns.length ≤ 1048576) (hcap : t.owns.length ≤ c) :
  Calls Tryz.prog 78 #[.agg #[.int .i64 t.count, .int .i64 t.next, .int .i64 t.round, .slice A t.owns.length c], .int .i64 g] w fun r w' => r = .returned (.tuple #[.int .i64 (spaceOf t g).1, .bool (spaceOf t g).2]) ∧ Ex w w' := by
 have HX := zq hx
 have CV := zq (fun w' (h : Ex w w') => tagsValidS_c t A c w' (hx.ex h) hn hcap)
 have B1 : Hid (∀ (k : Nat) (x : OwnD), t.owns[k]? = some x → tagsV t = true → x.tag = g → spaceOf t g = (x.space, true)) := zq (fun k x hx hv e => by rw [← e]; exact spaceOf_of hv hx)
 have B2 : Hid ((∀ (j : Nat) (y : OwnD), j < t.owns.length → t.owns[j]? = some y → (y.tag == g) = false) → spaceOf t g = (0, false)) := zq (fun h => spaceOf_none fun j y hy => by have := h j y (getElem?_lt hy) hy; simpa using this)
 have B3 : Hid (tagsV t = false → spaceOf t g = (0, false)) := zq (fun hv => if_neg (fun h => by rw [hv] at h; cases h.1))
 clear hx
 obtain ⟨cnt, nxt, rnd, xs⟩ := t
 simp only at HX CV B1 B2 hn hcap ⊢
 generalize tagsV ⟨cnt, nxt, rnd, xs⟩ = v at CV B1 B3
 generalize spaceOf ⟨cnt, nxt, rnd, xs⟩ g = res at *
 obtain ⟨n, hn1⟩ : ∃ n, n = xs.length := ⟨_, rfl⟩
 have HN := zq hn1
 rw [← hn1] at B2 hn CV hcap ⊢
 clear hn1
 go_enter Tryz.func78, Tryz.ntmps78
 go_wp2
 obtain ⟨w0, hw0⟩ : ∃ w0 : World, w0 = w.alloc (.cells #[.int .i64 cnt, .int .i64 nxt, .int .i64 rnd, .slice A n c] 32) := ⟨_, rfl⟩
 have E0 : Hid (Ex w w0) := zq (by rw [hw0]; exact (Ex.refl _).alloc _)
 have K0 : Hid (Blk w0 w.heap.size 32 [.int .i64 cnt, .int .i64 nxt, .int .i64 rnd, .slice A n c]) := zq (by rw [hw0]; exact Blk.new _ _ _)
 rw [← hw0]
 clear hw0
 go_loopw [6] (fun i wr => ∃ k : Nat, k ≤ n ∧ i = .int .i64 k ∧ Ex w0 wr ∧ ∀ (j : Nat) (y : OwnD), j < k → xs[j]? = some y → (y.tag == g) = false) (fun i _ => n - (intOf i).toNat)
 case atStart => exact ⟨0, Nat.zero_le _, rfl, Ex.refl _, fun j y h => by omega⟩
 case round =>
  obtain ⟨k, hk, rfl, hbel, hcl⟩ := hrel
  have HB := zq hbel
  have HCL := zq hcl
  clear hbel hcl
  obtain ⟨q0, q1, q2, q3⟩ := (K0.out.ex HB.out).c4
  have lb := (K0.out.ex HB.out).lt
  by_cases hlt : k < n
  ·have hkn : (k : Int) < (n : Int) := by omega
   go_wp2_with fail
   refine (CV.out _ (E0.out.trans HB.out)).mono ?_
   rintro r w2 ⟨rfl, hb2⟩
   have HB2 := zq (HB.out.trans hb2)
   clear hb2 q0 q1 q2 q3 lb
   cases v
   ·obtain rfl : res = (0, false) := B3.out rfl
    go_wp2
    go_ret2
    exact ⟨rfl, E0.out.trans HB2.out⟩
   obtain ⟨b1, o1, x, rfl, hb1, hxk, h0, h1⟩ := Rd.own ((HX.out.ex E0.out).ex HB2.out) (k := k) (by have := HN.out; omega)
   have HXK := zq hxk
   clear hxk
   obtain ⟨q0, q1, q2, q3⟩ := (K0.out.ex HB2.out).c4
   have lb := (K0.out.ex HB2.out).lt
   cases hv : (x.tag == g)
   ·have HV := zq hv
    go_wp2
    go_roundw
    case rel => exact ⟨k + 1, by omega, by go_num, (ze HB2.out), fun j z hj hz => by
     by_cases e : j = k
     ·subst e
      have := HXK.out
      rw [this] at hz
      injection hz with hz
      rw [← hz]; exact HV.out
     ·exact HCL.out j z (by omega) hz⟩
    case measure => simp [intOf]; omega
   ·obtain rfl : res = (x.space, true) := B1.out k x HXK.out rfl (by simpa using hv)
    go_wp2
    go_ret2
    exact ⟨rfl, (ze (E0.out.trans HB2.out))⟩
  ·obtain rfl : k = n := by omega
   obtain rfl : res = (0, false) := B2.out HCL.out
   go_wp2
   go_ret2
   exact ⟨rfl, (ze (E0.out.trans HB.out))⟩
end Go.Proofs.YtbdlpbladpppjaaGreatDoor
