/- Joined: Cx, Ws, Wc, Mm, Cz, Ca, Cy, Cm, Tx, Wd, Ck, Cn. -/
import Derived.Deep.RegionHeld3
import Derived.Deep.AppendLies
import Derived.Test.YtbdlpbladpppjaaGreatDoorK3
import Derived.Test.YtbdlpbladpppjaaGreatDoorK5
import Derived.Test.YtbdlpbladpppjaaGreatDoorK2
import Derived.Test.YtbdlpbladpppjaaGreatDoorK1
import Derived.Test.YtbdlpbladpppjaaGreatDoorK4
namespace Go.Proofs.YtbdlpbladpppjaaGreatDoor
open Go.ChangeShapes Go.WideShapes Go.ChangeAt Go.RowKit
open Rec (sz cs)
set_option linter.unusedVariables false
set_option maxRecDepth 100000

/-- How many of the first k lines are not wired. -/
def freeUp (xs : List LineD) (k : Nat) : Nat := (xs.take k).countP fun x => !x.wired
theorem freeUp_succ {xs : List LineD} {k : Nat} {x : LineD} (h : xs[k]? = some x) : freeUp xs (k + 1) = freeUp xs k + (if x.wired then 0 else 1) := by
 unfold freeUp
 rw [take_succ_of h, List.countP_append]
 cases hw : x.wired <;> simp [hw]
theorem freeUp_le (xs : List LineD) (k : Nat) : freeUp xs k ≤ k := by
 unfold freeUp
 have := List.countP_le_length (p := fun x : LineD => !x.wired) (l := xs.take k)
 rw [List.length_take] at this
 omega
theorem freeUp_loose (xs : List LineD) (k : Nat) : looseUp xs k = decide ((0 : Int) < (freeUp xs k : Int)) := by
 unfold freeUp looseUp
 rw [Bool.eq_iff_iff, decide_eq_true_iff]
 have := List.countP_pos_iff (p := fun x : LineD => !x.wired) (l := xs.take k)
 rw [List.any_eq_true]
 constructor
 ·rintro ⟨x, h1, h2⟩
  have := this.2 ⟨x, h1, h2⟩
  omega
 ·intro h
  obtain ⟨x, h1, h2⟩ := this.1 (by omega)
  exact ⟨x, h1, h2⟩

set_option maxHeartbeats 2000000 in
theorem cacheValidS_c (t : CacheD) (A : Option Addr) (c : Nat) (w : World) (hx : Rd w A t.lines) (hn : t.lines.length ≤ 1048576) (hc : t.lines.length ≤ c) :
  Calls Tryz.prog 47 #[.agg #[.slice A t.lines.length c, .int .i64 t.hand]] w fun r w' => r = .returned (.bool (cacheV t)) ∧ Ex w w' := by
 have B1 := zq (fun k x => @cacheV_bad_line t k x)
 have B2 := zq (fun k j x y => @cacheV_bad_clash t k j x y)
 have B3 := zq (@cacheV_bad_size t)
 have B4 := zq (@cacheV_end t)
 obtain ⟨xs, hand⟩ := t
 simp only at B1 B2 B3 B4 hx hn hc ⊢
 generalize cacheV ⟨xs, hand⟩ = res at *
 obtain ⟨n, hn1⟩ : ∃ n, n = xs.length := ⟨_, rfl⟩
 have HN := zq hn1
 rw [← hn1] at B3 B4 hn hc ⊢
 have HX := zq hx
 clear hn1 hx
 by_cases g1 : n < 1
 ·have g1' : (n : Int) < 1 := by omega
  obtain rfl : res = false := B3.out (by omega)
  go_enter Tryz.func47, Tryz.ntmps47
  go_wp2
  go_ret
  exact ⟨rfl, (Ex.refl _).alloc _⟩
 by_cases g2 : 8 < n
 ·have g2' : (8 : Int) < (n : Int) := by omega
  have g1' : ¬ (n : Int) < 1 := by omega
  obtain rfl : res = false := B3.out (by omega)
  go_enter Tryz.func47, Tryz.ntmps47
  go_wp2
  go_ret
  exact ⟨rfl, (Ex.refl _).alloc _⟩
 have g1' : ¬ (n : Int) < 1 := by omega
 have g2' : ¬ (8 : Int) < (n : Int) := by omega
 by_cases g3 : hand < 0
 ·obtain rfl : res = false := B3.out (by omega)
  go_enter Tryz.func47, Tryz.ntmps47
  go_wp2
  go_ret
  exact ⟨rfl, (Ex.refl _).alloc _⟩
 by_cases g4 : (n : Int) ≤ hand
 ·have g3' : 0 ≤ hand := by omega
  obtain rfl : res = false := B3.out (by omega)
  go_enter Tryz.func47, Tryz.ntmps47
  go_wp2
  go_ret
  exact ⟨rfl, (Ex.refl _).alloc _⟩
 have g3' : 0 ≤ hand := by omega
 have g4' : hand < n := by omega
 have HS : Hid (1 ≤ n ∧ n ≤ 8 ∧ 0 ≤ hand ∧ hand < n) := zq (by omega)
 clear g3 g4
 go_enter Tryz.func47, Tryz.ntmps47
 go_wp2
 obtain ⟨w0, hw0⟩ : ∃ w0 : World, w0 = w.alloc (.cells #[.slice A n c, .int .i64 hand] 29) := ⟨_, rfl⟩
 obtain ⟨gb, hgb⟩ : ∃ gb : Nat, gb = w.heap.size := ⟨_, rfl⟩
 have K0 : Hid (Blk w0 gb 29 [.slice A n c, .int .i64 hand]) := zq (by rw [hw0, hgb]; exact Blk.new w _ _)
 have E0 : Hid (Ex w w0) := zq (by rw [hw0]; exact (Ex.refl w).alloc _)
 rw [← hw0, ← hgb]
 clear hw0 hgb
 go_loopw [4, 3] (fun i f wr => ∃ k : Nat, k ≤ n ∧ i = .int .i64 k ∧ f = .int .i64 (freeUp xs k) ∧ Ex w0 wr ∧ OkUp xs k) (fun i _ _ => n - (intOf i).toNat)
 case atStart => exact ⟨0, Nat.zero_le _, rfl, by simp [freeUp], Ex.refl _, fun i x hi => by omega⟩
 case round =>
  obtain ⟨k, hk, rfl, rfl, hbel, hok⟩ := hrel
  have HB := zq hbel
  have HOK := zq hok
  clear hbel hok
  obtain ⟨q0, q1⟩ := (K0.out.ex HB.out).c2
  have lb := (K0.out.ex HB.out).lt
  by_cases hlt : k < n
  ·obtain ⟨b1, o1, x, rfl, hb1, hxk, h0, h1, h2, h3, h4, h5⟩ := Rd.line ((HX.out.ex E0.out).ex HB.out) (k := k) (by have := HN.out; omega)
   have HXK := zq hxk
   clear hxk
   go_wp2_with fail
   refine (l4Line_c x _).mono ?_
   rintro r w2 ⟨rfl, hb2⟩
   have HB2 : Hid (Ex wr w2) := zq ((((Ex.refl wr).alloc _)).trans hb2)
   have KX : Hid (Blk w2 wr.heap.size 64 [.bool x.valid, .int .i64 x.tag, .int .i64 x.page, .int .i64 x.frame, .int .i64 x.rights, .bool x.wired]) := zq ((Blk.new_at _ _ _ rfl).ex hb2)
   clear hb2 h0 h1 h2 h3 h4 h5 q0 q1
   cases hv : lineV x
   ·obtain rfl : res = false := B1.out k x HXK.out hv
    go_wp2
    go_ret
    exact ⟨rfl, (E0.out.trans HB.out).trans HB2.out⟩
   ·have HV := zq hv
    obtain ⟨gx, hgx⟩ : ∃ gx : Nat, gx = wr.heap.size := ⟨_, rfl⟩
    rw [← hgx] at KX ⊢
    clear hgx
    obtain ⟨p0, p1, p2, p3, p4, p5⟩ := KX.out.c6
    have lx := KX.out.lt
    have HE2 : Hid (Ex w w2) := zq ((E0.out.trans HB.out).trans HB2.out)
    have HX2 : Hid (Rd w2 (some ⟨b1, o1, none⟩) xs) := zq (HX.out.ex HE2.out)
    have KB2 : Hid (Blk w2 gb 29 [.slice (some ⟨b1, o1, none⟩) n c, .int .i64 hand]) := zq ((K0.out.ex HB.out).ex HB2.out)
    have HC : Hid (∀ (j : Nat) (y : LineD), j < 0 → xs[j]? = some y → clashB x y = false) := zq (fun j y h => by omega)
    have HW : Hid (Ex w0 w2) := zq (HB.out.trans HB2.out)
    have HFS := zq (freeUp_succ HXK.out)
    have hfl := freeUp_le xs k
    have HFU : Hid (∃ fu, fu = freeUp xs (k + 1) ∧ fu ≤ 10) := zq ⟨_, rfl, by have := freeUp_le xs (k + 1); omega⟩
    generalize freeUp xs k = fk at *
    clear HB2 HB lb hv
    have hfk : fk ≤ 10 := by omega
    clear hfl
    cases hwi : x.wired
    all_goals
     rw [hwi] at p5
     go_wp2_with fail
     clear p0 p1 p2 p3 p4 p5 lx
     go_loopw [6] (fun j wi => ∃ m : Nat, m ≤ k ∧ j = .int .i64 m ∧ Ex w2 wi ∧ ∀ (j : Nat) (y : LineD), j < m → xs[j]? = some y → clashB x y = false) (fun j _ => k - (intOf j).toNat)
     case atStart => exact ⟨0, Nat.zero_le _, rfl, Ex.refl _, HC.out⟩
     case round =>
      obtain ⟨m, hm, rfl, hbi, hcl⟩ := hrel
      have HBI := zq hbi
      have HCL := zq hcl
      clear hbi hcl
      obtain ⟨p0, p1, p2, p3, p4, p5⟩ := (KX.out.ex HBI.out).c6
      have lx := (KX.out.ex HBI.out).lt
      obtain ⟨q0, q1⟩ := (KB2.out.ex HBI.out).c2
      have lb := (KB2.out.ex HBI.out).lt
      by_cases hlm : m < k
      ·obtain ⟨y, hb1', hyk, y0, y1, y2, y3, y4, y5⟩ := Rd.line_known (HX2.out.ex HBI.out) (k := m) (by have := HN.out; omega)
       have HYK := zq hyk
       clear hyk
       have hmn : (m : Int) < (n : Int) := by omega
       rcases clash_split x y with ⟨c1, e⟩ | ⟨c1, c2, e⟩ | ⟨c1, c2, c3, e⟩ | ⟨c1, c2, c3, c4, e⟩ | ⟨c1, c2, c3, c4, c5, e⟩ | ⟨c1, c2, c3, c4, c5, c6, e⟩ | ⟨c1, c2, c3, c4, c5, c6, e⟩
       all_goals
        have HCY := zq e
        clear e
        first
         | (obtain rfl : res = false := B2.out k m x y HXK.out HYK.out hlm HCY.out
            go_wp2
            go_ret
            exact ⟨rfl, (HE2.out.trans HBI.out).alloc _⟩)
         | (go_wp2
            go_roundw
            case rel => exact ⟨m + 1, by omega, by go_num, HBI.out.alloc _, fun j z hj hz => by
             by_cases e : j = m
             ·subst e
              have := HYK.out
              rw [this] at hz
              injection hz with hz
              rw [← hz]; exact HCY.out
             ·exact HCL.out j z (by omega) hz⟩
            case measure => simp [intOf]; omega)
      ·obtain rfl : m = k := by omega
       have HOK2 : Hid (OkUp xs (m + 1)) := zq (okUp_succ HOK.out HXK.out HV.out HCL.out)
       go_wp2
       go_roundw
       case rel => exact ⟨m + 1, by omega, by go_num, by rw [HFS.out]; simp [hwi], HW.out.trans HBI.out, HOK2.out⟩
       case measure => simp [intOf]; omega
  ·obtain rfl : k = n := by omega
   have HR : Hid (res = looseUp xs k) := zq (B4.out (by have := HS.out; omega) HOK.out)
   have HFL := zq (freeUp_loose xs k)
   generalize freeUp xs k = fk at *
   go_wp2
   go_ret
   exact ⟨ret_bool (by rw [HR.out, HFL.out]; simp), E0.out.trans HB.out⟩

set_option maxHeartbeats 8000000 in
theorem machS_c (m : MachD) (a : MA) (w : World) (hx : HasM w m a) (hf : FewM m) (hc : CapM m a) :
  Calls Tryz.prog 23 #[.agg #[.slice a.b m.table.buckets.length a.bc, .slice a.f m.table.frames.length a.fc, .slice a.l m.cache.lines.length a.lc, .int .i64 m.cache.hand, .int .i64 m.tags.count, .int .i64 m.tags.next, .int .i64 m.tags.round, .slice a.o m.tags.owns.length a.oc, .int .i64 m.space]] w fun r w' => r = .returned (.bool (machV m)) ∧ Ex w w' := by
 obtain ⟨A, c, B, d, L, e, O, g⟩ := a
 have HB : Hid (Rd w A m.table.buckets) := zq hx.b
 have HF : Hid (Rd w B m.table.frames) := zq hx.f
 have HL : Hid (Rd w L m.cache.lines) := zq hx.l
 have HO : Hid (Rd w O m.tags.owns) := zq hx.o
 skip
 have C1 := zq (fun w' (h1 : Rd w' A m.table.buckets) (h2 : Rd w' B m.table.frames) => tableS_c m.table A c B d w' h1 h2 hf.b hf.f)
 have C2 := zq (fun w' (h1 : Rd w' L m.cache.lines) => cacheValidS_c m.cache L e w' h1 hf.l hc.l)
 have C3 := zq (fun w' (h1 : Rd w' O m.tags.owns) => tagsValidS_c m.tags O g w' h1 hf.o hc.o)
 have C4 := zq (fun w' (h1 : Rd w' O m.tags.owns) => l5Find_c m.tags m.space O g w' h1 hf.o)
 clear hx
 dsimp only
 cases h1 : tableV m.table
 ·rw [machV_no (fun h => by have := tableV_yes h.1.1; rw [h1] at this; cases this)]
  rw [h1] at C1
  generalize m.table.frames.length = n at C1 ⊢
  generalize m.table.buckets.length = nb at C1 ⊢
  generalize m.cache.lines.length = nl at C2 ⊢
  generalize m.tags.owns.length = no at C3 C4 ⊢
  go_enter Tryz.func23, Tryz.ntmps23
  go_wp2_with fail
  have K0 : Hid (Blk (w.alloc (.cells #[.slice A nb c, .slice B n d, .slice L nl e, .int .i64 m.cache.hand, .int .i64 m.tags.count, .int .i64 m.tags.next, .int .i64 m.tags.round, .slice O no g, .int .i64 m.space] 34)) w.heap.size 34 [.slice A nb c, .slice B n d, .slice L nl e, .int .i64 m.cache.hand, .int .i64 m.tags.count, .int .i64 m.tags.next, .int .i64 m.tags.round, .slice O no g, .int .i64 m.space]) := zq (Blk.new w _ _)
  have E0 : Hid (Ex w (w.alloc (.cells #[.slice A nb c, .slice B n d, .slice L nl e, .int .i64 m.cache.hand, .int .i64 m.tags.count, .int .i64 m.tags.next, .int .i64 m.tags.round, .slice O no g, .int .i64 m.space] 34))) := zq ((Ex.refl w).alloc _)
  refine (C1.out _ (HB.out.ex E0.out) (HF.out.ex E0.out)).mono ?_
  rintro r w1 ⟨rfl, he1⟩
  have E1 := zq (E0.out.trans he1)
  have K1 := zq (K0.out.ex he1)
  clear he1 E0 K0
  obtain ⟨q0, q1, q2, q3, q4, q5, q6, q7, q8⟩ := K1.out.c9
  have jM := K1.out.lt
  go_wp2
  go_ret
  exact ⟨rfl, E1.out⟩
 rw [h1] at C1
 cases h2 : cacheV m.cache
 ·rw [machV_no (fun h => by have := h.1.2.1; rw [h2] at this; cases this)]
  rw [h2] at C2
  generalize m.table.frames.length = n at C1 ⊢
  generalize m.table.buckets.length = nb at C1 ⊢
  generalize m.cache.lines.length = nl at C2 ⊢
  generalize m.tags.owns.length = no at C3 C4 ⊢
  go_enter Tryz.func23, Tryz.ntmps23
  go_wp2_with fail
  have K0 : Hid (Blk (w.alloc (.cells #[.slice A nb c, .slice B n d, .slice L nl e, .int .i64 m.cache.hand, .int .i64 m.tags.count, .int .i64 m.tags.next, .int .i64 m.tags.round, .slice O no g, .int .i64 m.space] 34)) w.heap.size 34 [.slice A nb c, .slice B n d, .slice L nl e, .int .i64 m.cache.hand, .int .i64 m.tags.count, .int .i64 m.tags.next, .int .i64 m.tags.round, .slice O no g, .int .i64 m.space]) := zq (Blk.new w _ _)
  have E0 : Hid (Ex w (w.alloc (.cells #[.slice A nb c, .slice B n d, .slice L nl e, .int .i64 m.cache.hand, .int .i64 m.tags.count, .int .i64 m.tags.next, .int .i64 m.tags.round, .slice O no g, .int .i64 m.space] 34))) := zq ((Ex.refl w).alloc _)
  refine (C1.out _ (HB.out.ex E0.out) (HF.out.ex E0.out)).mono ?_
  rintro r w1 ⟨rfl, he1⟩
  have E1 := zq (E0.out.trans he1)
  have K1 := zq (K0.out.ex he1)
  clear he1 E0 K0
  obtain ⟨q0, q1, q2, q3, q4, q5, q6, q7, q8⟩ := K1.out.c9
  have jM := K1.out.lt
  go_wp2_with fail
  clear q0 q1 q2 q3 q4 q5 q6 q7 q8 jM
  refine (C2.out _ (HL.out.ex E1.out)).mono ?_
  rintro r w2 ⟨rfl, he2⟩
  have E2 := zq (E1.out.trans he2)
  have K2 := zq (K1.out.ex he2)
  clear he2 E1 K1
  obtain ⟨q0, q1, q2, q3, q4, q5, q6, q7, q8⟩ := K2.out.c9
  have jM := K2.out.lt
  go_wp2
  go_ret
  exact ⟨rfl, E2.out⟩
 rw [h2] at C2
 cases h3 : tagsV m.tags
 ·rw [machV_no (fun h => by have := h.1.2.2.1; rw [h3] at this; cases this)]
  rw [h3] at C3
  generalize m.table.frames.length = n at C1 ⊢
  generalize m.table.buckets.length = nb at C1 ⊢
  generalize m.cache.lines.length = nl at C2 ⊢
  generalize m.tags.owns.length = no at C3 C4 ⊢
  go_enter Tryz.func23, Tryz.ntmps23
  go_wp2_with fail
  have K0 : Hid (Blk (w.alloc (.cells #[.slice A nb c, .slice B n d, .slice L nl e, .int .i64 m.cache.hand, .int .i64 m.tags.count, .int .i64 m.tags.next, .int .i64 m.tags.round, .slice O no g, .int .i64 m.space] 34)) w.heap.size 34 [.slice A nb c, .slice B n d, .slice L nl e, .int .i64 m.cache.hand, .int .i64 m.tags.count, .int .i64 m.tags.next, .int .i64 m.tags.round, .slice O no g, .int .i64 m.space]) := zq (Blk.new w _ _)
  have E0 : Hid (Ex w (w.alloc (.cells #[.slice A nb c, .slice B n d, .slice L nl e, .int .i64 m.cache.hand, .int .i64 m.tags.count, .int .i64 m.tags.next, .int .i64 m.tags.round, .slice O no g, .int .i64 m.space] 34))) := zq ((Ex.refl w).alloc _)
  refine (C1.out _ (HB.out.ex E0.out) (HF.out.ex E0.out)).mono ?_
  rintro r w1 ⟨rfl, he1⟩
  have E1 := zq (E0.out.trans he1)
  have K1 := zq (K0.out.ex he1)
  clear he1 E0 K0
  obtain ⟨q0, q1, q2, q3, q4, q5, q6, q7, q8⟩ := K1.out.c9
  have jM := K1.out.lt
  go_wp2_with fail
  clear q0 q1 q2 q3 q4 q5 q6 q7 q8 jM
  refine (C2.out _ (HL.out.ex E1.out)).mono ?_
  rintro r w2 ⟨rfl, he2⟩
  have E2 := zq (E1.out.trans he2)
  have K2 := zq (K1.out.ex he2)
  clear he2 E1 K1
  obtain ⟨q0, q1, q2, q3, q4, q5, q6, q7, q8⟩ := K2.out.c9
  have jM := K2.out.lt
  go_wp2_with fail
  clear q0 q1 q2 q3 q4 q5 q6 q7 q8 jM
  refine (C3.out _ (HO.out.ex E2.out)).mono ?_
  rintro r w3 ⟨rfl, he3⟩
  have E3 := zq (E2.out.trans he3)
  have K3 := zq (K2.out.ex he3)
  clear he3 E2 K2
  obtain ⟨q0, q1, q2, q3, q4, q5, q6, q7, q8⟩ := K3.out.c9
  have jM := K3.out.lt
  go_wp2
  go_ret
  exact ⟨rfl, E3.out⟩
 rw [h3] at C3
 by_cases h4 : ownPlace m.tags.owns m.space < 0
 ·rw [machV_no (fun h => by have := h.1.2.2.2; omega)]
  generalize ownPlace m.tags.owns m.space = op at h4 C4
  generalize m.table.frames.length = n at C1 ⊢
  generalize m.table.buckets.length = nb at C1 ⊢
  generalize m.cache.lines.length = nl at C2 ⊢
  generalize m.tags.owns.length = no at C3 C4 ⊢
  go_enter Tryz.func23, Tryz.ntmps23
  go_wp2_with fail
  have K0 : Hid (Blk (w.alloc (.cells #[.slice A nb c, .slice B n d, .slice L nl e, .int .i64 m.cache.hand, .int .i64 m.tags.count, .int .i64 m.tags.next, .int .i64 m.tags.round, .slice O no g, .int .i64 m.space] 34)) w.heap.size 34 [.slice A nb c, .slice B n d, .slice L nl e, .int .i64 m.cache.hand, .int .i64 m.tags.count, .int .i64 m.tags.next, .int .i64 m.tags.round, .slice O no g, .int .i64 m.space]) := zq (Blk.new w _ _)
  have E0 : Hid (Ex w (w.alloc (.cells #[.slice A nb c, .slice B n d, .slice L nl e, .int .i64 m.cache.hand, .int .i64 m.tags.count, .int .i64 m.tags.next, .int .i64 m.tags.round, .slice O no g, .int .i64 m.space] 34))) := zq ((Ex.refl w).alloc _)
  refine (C1.out _ (HB.out.ex E0.out) (HF.out.ex E0.out)).mono ?_
  rintro r w1 ⟨rfl, he1⟩
  have E1 := zq (E0.out.trans he1)
  have K1 := zq (K0.out.ex he1)
  clear he1 E0 K0
  obtain ⟨q0, q1, q2, q3, q4, q5, q6, q7, q8⟩ := K1.out.c9
  have jM := K1.out.lt
  go_wp2_with fail
  clear q0 q1 q2 q3 q4 q5 q6 q7 q8 jM
  refine (C2.out _ (HL.out.ex E1.out)).mono ?_
  rintro r w2 ⟨rfl, he2⟩
  have E2 := zq (E1.out.trans he2)
  have K2 := zq (K1.out.ex he2)
  clear he2 E1 K1
  obtain ⟨q0, q1, q2, q3, q4, q5, q6, q7, q8⟩ := K2.out.c9
  have jM := K2.out.lt
  go_wp2_with fail
  clear q0 q1 q2 q3 q4 q5 q6 q7 q8 jM
  refine (C3.out _ (HO.out.ex E2.out)).mono ?_
  rintro r w3 ⟨rfl, he3⟩
  have E3 := zq (E2.out.trans he3)
  have K3 := zq (K2.out.ex he3)
  clear he3 E2 K2
  obtain ⟨q0, q1, q2, q3, q4, q5, q6, q7, q8⟩ := K3.out.c9
  have jM := K3.out.lt
  go_wp2_with fail
  clear q0 q1 q2 q3 q4 q5 q6 q7 q8 jM
  refine (C4.out _ (HO.out.ex E3.out)).mono ?_
  rintro r w4 ⟨rfl, he4⟩
  have E4 := zq (E3.out.trans he4)
  have K4 := zq (K3.out.ex he4)
  clear he4 E3 K3
  obtain ⟨q0, q1, q2, q3, q4, q5, q6, q7, q8⟩ := K4.out.c9
  have jM := K4.out.lt
  go_wp2
  go_ret
  exact ⟨rfl, E4.out⟩
 have HNO : Hid (∀ w', Ex w w' → ¬ MachOk m → (Ending.returned (.bool false) = .returned (.bool (machV m)) ∧ Ex w w')) := zq (fun w' h1 h2 => ⟨ret_bool (machV_no h2).symm, h1⟩)
 have HOK : Hid (MachHead m) := zq ⟨tableV_iff.1 h1, h2, h3, by omega⟩
 have CL := zq (fun x hp w' h => l6Line_c m ⟨A, c, B, d, L, e, O, g⟩ x w' h hf hc (tableV_iff.1 h1) h3 hp)
 dsimp only at CL
 have CEL : Hid (∀ (args : Array Value) (w : World), (callFunc 50 args).run Tryz.prog w = .ok (.enter 50 args) w) := zq (enters Tryz.func50 (by kernel_rfl) (by kernel_rfl))
 have HLP := zq (fun i x h5 h6 => @line_page m.cache h2 i x h5 h6)
 generalize ownPlace m.tags.owns m.space = op at h4 C4
 obtain ⟨n, en⟩ : ∃ n, n = m.table.frames.length := ⟨_, rfl⟩
 obtain ⟨nl, el⟩ : ∃ n, n = m.cache.lines.length := ⟨_, rfl⟩
 have HN := zq en
 have HNL := zq el
 have hfl : nl ≤ 1048576 := by rw [el]; exact hf.l
 have hfn : n ≤ 1048576 := by rw [en]; exact hf.f
 rw [← en] at C1 CL ⊢
 rw [← el] at C2 CL ⊢
 generalize m.table.buckets.length = nb at C1 CL ⊢
 generalize m.tags.owns.length = no at C3 C4 CL ⊢
 clear en el hf hc h1 h2 h3
 go_enter Tryz.func23, Tryz.ntmps23
 go_wp2_with fail
 have K0 : Hid (Blk (w.alloc (.cells #[.slice A nb c, .slice B n d, .slice L nl e, .int .i64 m.cache.hand, .int .i64 m.tags.count, .int .i64 m.tags.next, .int .i64 m.tags.round, .slice O no g, .int .i64 m.space] 34)) w.heap.size 34 [.slice A nb c, .slice B n d, .slice L nl e, .int .i64 m.cache.hand, .int .i64 m.tags.count, .int .i64 m.tags.next, .int .i64 m.tags.round, .slice O no g, .int .i64 m.space]) := zq (Blk.new w _ _)
 have E0 : Hid (Ex w (w.alloc (.cells #[.slice A nb c, .slice B n d, .slice L nl e, .int .i64 m.cache.hand, .int .i64 m.tags.count, .int .i64 m.tags.next, .int .i64 m.tags.round, .slice O no g, .int .i64 m.space] 34))) := zq ((Ex.refl w).alloc _)
 refine (C1.out _ (HB.out.ex E0.out) (HF.out.ex E0.out)).mono ?_
 rintro r w1 ⟨rfl, he1⟩
 have E1 := zq (E0.out.trans he1)
 have K1 := zq (K0.out.ex he1)
 clear he1 E0 K0
 obtain ⟨q0, q1, q2, q3, q4, q5, q6, q7, q8⟩ := K1.out.c9
 have jM := K1.out.lt
 go_wp2_with fail
 clear q0 q1 q2 q3 q4 q5 q6 q7 q8 jM
 refine (C2.out _ (HL.out.ex E1.out)).mono ?_
 rintro r w2 ⟨rfl, he2⟩
 have E2 := zq (E1.out.trans he2)
 have K2 := zq (K1.out.ex he2)
 clear he2 E1 K1
 obtain ⟨q0, q1, q2, q3, q4, q5, q6, q7, q8⟩ := K2.out.c9
 have jM := K2.out.lt
 go_wp2_with fail
 clear q0 q1 q2 q3 q4 q5 q6 q7 q8 jM
 refine (C3.out _ (HO.out.ex E2.out)).mono ?_
 rintro r w3 ⟨rfl, he3⟩
 have E3 := zq (E2.out.trans he3)
 have K3 := zq (K2.out.ex he3)
 clear he3 E2 K2
 obtain ⟨q0, q1, q2, q3, q4, q5, q6, q7, q8⟩ := K3.out.c9
 have jM := K3.out.lt
 go_wp2_with fail
 clear q0 q1 q2 q3 q4 q5 q6 q7 q8 jM
 refine (C4.out _ (HO.out.ex E3.out)).mono ?_
 rintro r w4 ⟨rfl, he4⟩
 have E4 := zq (E3.out.trans he4)
 have K4 := zq (K3.out.ex he4)
 clear he4 E3 K3
 obtain ⟨q0, q1, q2, q3, q4, q5, q6, q7, q8⟩ := K4.out.c9
 have jM := K4.out.lt
 go_wp2
 clear q0 q1 q2 q3 q4 q5 q6 q7 q8 jM C1 C2 C3 C4
 obtain ⟨gm, hgm⟩ : ∃ gm : Nat, gm = w.heap.size := ⟨_, rfl⟩
 rw [← hgm] at K4 ⊢
 clear hgm
 go_loopw [3] (fun i wr => ∃ k : Nat, k ≤ n ∧ i = .int .i64 k ∧ Ex w4 wr ∧ ∀ (j : Nat) (h : FrameD), j < k → m.table.frames[j]? = some h → FrameFits h) (fun i _ => n - (intOf i).toNat)
 case atStart => exact ⟨0, Nat.zero_le _, rfl, Ex.refl _, fun j h hj => by omega⟩
 case round =>
  obtain ⟨k, hk, rfl, hq, hall⟩ := hrel
  have HQ := zq (E4.out.trans hq)
  have HQ4 := zq hq
  have HALL := zq hall
  have KQ := zq (K4.out.ex hq)
  clear hq hall
  obtain ⟨q0, q1, q2, q3, q4, q5, q6, q7, q8⟩ := KQ.out.c9
  have jM := KQ.out.lt
  by_cases hlt : k < n
  ·obtain ⟨b2, o2, f, rfl, hb2, hfi, k0, k1, k2, k3, k4⟩ := (HF.out.ex HQ.out).frame (k := k) (by have := HN.out; omega)
   have HFI := zq hfi
   clear hfi
   have HNEXT : Hid (FrameFits f → ∀ (j : Nat) (h : FrameD), j < k + 1 → m.table.frames[j]? = some h → FrameFits h) := zq (fun hff j h hj hh => by
    by_cases e : j = k
    ·subst e
     have := HFI.out
     rw [this] at hh
     injection hh with hh
     rw [← hh]; exact hff
    ·exact HALL.out j h (by omega) hh)
   cases hu : f.used
   ·rw [hu] at k0
    have HFF := zq (HNEXT.out (fun h => by rw [hu] at h; cases h.1))
    clear hu
    go_wp2
    go_roundw
    case rel => exact ⟨k + 1, by omega, by go_num, HQ4.out.alloc _, HFF.out⟩
    case measure => simp [intOf]; omega
   rw [hu] at k0
   by_cases hp : 128 ≤ f.key.page
   ·by_cases hs : f.key.space = 0
    ·have HFF := zq (HNEXT.out (fun h => h.2.2 hs))
     rw [hs] at k1
     clear hu
     go_wp2
     go_roundw
     case rel => exact ⟨k + 1, by omega, by go_num, HQ4.out.alloc _, HFF.out⟩
     case measure => simp [intOf]; omega
    ·have HBAD : Hid (¬ MachOk m) := zq (fun h => h.2.1 k f HFI.out ⟨hu, hp, hs⟩)
     have hb1 : (f.key.space != 0) = true := by simpa using hs
     have hb2' : (!f.key.space == 0) = true := by simpa using hs
     clear hu
     go_wp2
     go_ret
     exact HNO.out _ (HQ.out.alloc _) HBAD.out
   ·have HFF := zq (HNEXT.out (fun h => hp h.2.1))
    clear hu
    go_wp2
    go_roundw
    case rel => exact ⟨k + 1, by omega, by go_num, HQ4.out.alloc _, HFF.out⟩
    case measure => simp [intOf]; omega
  ·obtain rfl : k = n := by omega
   have HFA : Hid (∀ (i : Nat) (f : FrameD), m.table.frames[i]? = some f → FrameFits f) := zq (fun i f h => HALL.out i f (by have := getElem?_lt h; have := HN.out; omega) h)
   go_wp2
   clear q0 q1 q2 q3 q4 q5 q6 q7 q8 jM HALL HQ KQ
   go_loopw [5] (fun i wq => ∃ q : Nat, q ≤ nl ∧ i = .int .i64 q ∧ Ex w4 wq ∧ ∀ (j : Nat) (h : LineD), j < q → m.cache.lines[j]? = some h → h.valid = true → LineFits m h) (fun i _ => nl - (intOf i).toNat)
   case atStart => exact ⟨0, Nat.zero_le _, rfl, HQ4.out, fun j h hj => by omega⟩
   case round =>
    clear HQ4
    obtain ⟨q, hk, rfl, hq, hall⟩ := hrel
    have HQ := zq (E4.out.trans hq)
    have HQ4 := zq hq
    have HALL := zq hall
    have KQ := zq (K4.out.ex hq)
    clear hq hall
    by_cases hlt : q < nl
    ·obtain ⟨b3, o3, x, rfl, hb3, hxi, k0, k1, k2, k3, k4, k5⟩ := (HL.out.ex HQ.out).line (k := q) (by have := HNL.out; omega)
     have HXI := zq hxi
     clear hxi
     have HNEXT : Hid ((x.valid = true → LineFits m x) → ∀ (j : Nat) (h : LineD), j < q + 1 → m.cache.lines[j]? = some h → h.valid = true → LineFits m h) := zq (fun hff j h hj hh hv => by
      by_cases e : j = q
      ·subst e
       have := HXI.out
       rw [this] at hh
       injection hh with hh
       subst hh; exact hff hv
      ·exact HALL.out j h (by omega) hh hv)
     obtain ⟨q0, q1, q2, q3, q4, q5, q6, q7, q8⟩ := KQ.out.c9
     have jM := KQ.out.lt
     cases hv : x.valid
     ·rw [hv] at k0
      have HFF := zq (HNEXT.out (fun h => by rw [hv] at h; cases h))
      clear hv
      go_wp2_with fail
      clear q0 q1 q2 q3 q4 q5 q6 q7 q8 jM
      have FK : Hid (∀ w', Ex wr w' → (w'.cell? ⟨gm, 0, none⟩ = some (.slice A nb c) ∧ w'.cell? ⟨gm, 1, none⟩ = some (.slice B k d) ∧ w'.cell? ⟨gm, 2, none⟩ = some (.slice (some ⟨b3, o3, none⟩) nl e) ∧ w'.cell? ⟨gm, 3, none⟩ = some (.int .i64 m.cache.hand) ∧ w'.cell? ⟨gm, 4, none⟩ = some (.int .i64 m.tags.count) ∧ w'.cell? ⟨gm, 5, none⟩ = some (.int .i64 m.tags.next) ∧ w'.cell? ⟨gm, 6, none⟩ = some (.int .i64 m.tags.round) ∧ w'.cell? ⟨gm, 7, none⟩ = some (.slice O no g) ∧ w'.cell? ⟨gm, 8, none⟩ = some (.int .i64 m.space) ∧ w'.cell? ⟨b3, o3 + q * 6, none⟩ = some (.bool false) ∧ w'.cell? ⟨b3, o3 + q * 6 + 1, none⟩ = some (.int .i64 x.tag) ∧ w'.cell? ⟨b3, o3 + q * 6 + 2, none⟩ = some (.int .i64 x.page) ∧ w'.cell? ⟨b3, o3 + q * 6 + 3, none⟩ = some (.int .i64 x.frame) ∧ w'.cell? ⟨b3, o3 + q * 6 + 4, none⟩ = some (.int .i64 x.rights) ∧ w'.cell? ⟨b3, o3 + q * 6 + 5, none⟩ = some (.bool x.wired))) := zq (fun w' h => ⟨(KQ.out.ex h).c9.1, (KQ.out.ex h).c9.2.1, (KQ.out.ex h).c9.2.2.1, (KQ.out.ex h).c9.2.2.2.1, (KQ.out.ex h).c9.2.2.2.2.1, (KQ.out.ex h).c9.2.2.2.2.2.1, (KQ.out.ex h).c9.2.2.2.2.2.2.1, (KQ.out.ex h).c9.2.2.2.2.2.2.2.1, (KQ.out.ex h).c9.2.2.2.2.2.2.2.2, (h.cell hb3).trans k0, (h.cell hb3).trans k1, (h.cell hb3).trans k2, (h.cell hb3).trans k3, (h.cell hb3).trans k4, (h.cell hb3).trans k5⟩)
      clear k0 k1 k2 k3 k4 k5
      refine wp_region_held_drew (S := (fun w' => (w'.cell? ⟨gm, 0, none⟩ = some (.slice A nb c) ∧ w'.cell? ⟨gm, 1, none⟩ = some (.slice B k d) ∧ w'.cell? ⟨gm, 2, none⟩ = some (.slice (some ⟨b3, o3, none⟩) nl e) ∧ w'.cell? ⟨gm, 3, none⟩ = some (.int .i64 m.cache.hand) ∧ w'.cell? ⟨gm, 4, none⟩ = some (.int .i64 m.tags.count) ∧ w'.cell? ⟨gm, 5, none⟩ = some (.int .i64 m.tags.next) ∧ w'.cell? ⟨gm, 6, none⟩ = some (.int .i64 m.tags.round) ∧ w'.cell? ⟨gm, 7, none⟩ = some (.slice O no g) ∧ w'.cell? ⟨gm, 8, none⟩ = some (.int .i64 m.space) ∧ w'.cell? ⟨b3, o3 + q * 6, none⟩ = some (.bool false) ∧ w'.cell? ⟨b3, o3 + q * 6 + 1, none⟩ = some (.int .i64 x.tag) ∧ w'.cell? ⟨b3, o3 + q * 6 + 2, none⟩ = some (.int .i64 x.page) ∧ w'.cell? ⟨b3, o3 + q * 6 + 3, none⟩ = some (.int .i64 x.frame) ∧ w'.cell? ⟨b3, o3 + q * 6 + 4, none⟩ = some (.int .i64 x.rights) ∧ w'.cell? ⟨b3, o3 + q * 6 + 5, none⟩ = some (.bool x.wired)))) (by kernel_rfl) ?r0_hS0 (fun hHeld => ?_)
      case r0_hS0 => exact FK.out _ (Ex.refl _).drew
      refine tk 0 ?_; refine tk 1 ?_; refine tk 2 ?_; refine tk 3 ?_; refine tk 4 ?_; refine tk 5 ?_; refine tk 6 ?_; refine tk 7 ?_; refine tn 8 ?_; refine tn 9 ?_; refine tn 10 ?_; refine tn 11 ?_; refine tn 12 ?_; refine tn 13 ?_
      refine tn 14 ?_; refine tn 15 ?_; refine tn 16 ?_; refine tk 17 ?_
      refine wpAnyH_done (by kernel_rfl) ?_ _
      go_wp2
      go_roundw
      case rel => exact ⟨q + 1, by omega, by go_num, HQ4.out.drew, HFF.out⟩
      case measure => simp [intOf]; omega
     rw [hv] at k0
     have CL := zq (CL.out x (HLP.out q x HXI.out hv))
     rw [hv] at CL
     cases hlf : lineFitsB m x
     ·rw [hlf] at CL
      have HBAD : Hid (¬ MachOk m) := zq (fun h => by have := lineFitsB_iff.2 (h.2.2 q x HXI.out hv); rw [hlf] at this; cases this)
      clear hv hlf
      go_wp2_with fail
      clear q0 q1 q2 q3 q4 q5 q6 q7 q8 jM
      have FK : Hid (∀ w', Ex wr w' → (w'.cell? ⟨gm, 0, none⟩ = some (.slice A nb c) ∧ w'.cell? ⟨gm, 1, none⟩ = some (.slice B k d) ∧ w'.cell? ⟨gm, 2, none⟩ = some (.slice (some ⟨b3, o3, none⟩) nl e) ∧ w'.cell? ⟨gm, 3, none⟩ = some (.int .i64 m.cache.hand) ∧ w'.cell? ⟨gm, 4, none⟩ = some (.int .i64 m.tags.count) ∧ w'.cell? ⟨gm, 5, none⟩ = some (.int .i64 m.tags.next) ∧ w'.cell? ⟨gm, 6, none⟩ = some (.int .i64 m.tags.round) ∧ w'.cell? ⟨gm, 7, none⟩ = some (.slice O no g) ∧ w'.cell? ⟨gm, 8, none⟩ = some (.int .i64 m.space) ∧ w'.cell? ⟨b3, o3 + q * 6, none⟩ = some (.bool true) ∧ w'.cell? ⟨b3, o3 + q * 6 + 1, none⟩ = some (.int .i64 x.tag) ∧ w'.cell? ⟨b3, o3 + q * 6 + 2, none⟩ = some (.int .i64 x.page) ∧ w'.cell? ⟨b3, o3 + q * 6 + 3, none⟩ = some (.int .i64 x.frame) ∧ w'.cell? ⟨b3, o3 + q * 6 + 4, none⟩ = some (.int .i64 x.rights) ∧ w'.cell? ⟨b3, o3 + q * 6 + 5, none⟩ = some (.bool x.wired))) := zq (fun w' h => ⟨(KQ.out.ex h).c9.1, (KQ.out.ex h).c9.2.1, (KQ.out.ex h).c9.2.2.1, (KQ.out.ex h).c9.2.2.2.1, (KQ.out.ex h).c9.2.2.2.2.1, (KQ.out.ex h).c9.2.2.2.2.2.1, (KQ.out.ex h).c9.2.2.2.2.2.2.1, (KQ.out.ex h).c9.2.2.2.2.2.2.2.1, (KQ.out.ex h).c9.2.2.2.2.2.2.2.2, (h.cell hb3).trans k0, (h.cell hb3).trans k1, (h.cell hb3).trans k2, (h.cell hb3).trans k3, (h.cell hb3).trans k4, (h.cell hb3).trans k5⟩)
      clear k0 k1 k2 k3 k4 k5
      refine wp_region_held_drew (S := (fun w' => (w'.cell? ⟨gm, 0, none⟩ = some (.slice A nb c) ∧ w'.cell? ⟨gm, 1, none⟩ = some (.slice B k d) ∧ w'.cell? ⟨gm, 2, none⟩ = some (.slice (some ⟨b3, o3, none⟩) nl e) ∧ w'.cell? ⟨gm, 3, none⟩ = some (.int .i64 m.cache.hand) ∧ w'.cell? ⟨gm, 4, none⟩ = some (.int .i64 m.tags.count) ∧ w'.cell? ⟨gm, 5, none⟩ = some (.int .i64 m.tags.next) ∧ w'.cell? ⟨gm, 6, none⟩ = some (.int .i64 m.tags.round) ∧ w'.cell? ⟨gm, 7, none⟩ = some (.slice O no g) ∧ w'.cell? ⟨gm, 8, none⟩ = some (.int .i64 m.space) ∧ w'.cell? ⟨b3, o3 + q * 6, none⟩ = some (.bool true) ∧ w'.cell? ⟨b3, o3 + q * 6 + 1, none⟩ = some (.int .i64 x.tag) ∧ w'.cell? ⟨b3, o3 + q * 6 + 2, none⟩ = some (.int .i64 x.page) ∧ w'.cell? ⟨b3, o3 + q * 6 + 3, none⟩ = some (.int .i64 x.frame) ∧ w'.cell? ⟨b3, o3 + q * 6 + 4, none⟩ = some (.int .i64 x.rights) ∧ w'.cell? ⟨b3, o3 + q * 6 + 5, none⟩ = some (.bool x.wired)))) (by kernel_rfl) ?r1_hS0 (fun hHeld => ?_)
      case r1_hS0 => exact FK.out _ (Ex.refl _).drew
      refine tk 0 ?_; refine tk 1 ?_; refine tk 2 ?_; refine tk 3 ?_; refine tk 4 ?_; refine tk 5 ?_; refine tk 6 ?_; refine tk 7 ?_; refine tk 8 ?_; refine tk 9 ?_; refine tk 10 ?_; refine tk 11 ?_; refine tk 12 ?_; refine tk 13 ?_
      refine tk 14 ?_
      refine wpAnyH_ready (rs := [15]) (by kernel_rfl) (by simp) ?_
      refine AllReadyH.cons (o := ?r1_o15) ?r1_ho15 (fun K hK => ?_) AllReadyH.nil
      case r1_ho15 => (conv => lhs; whnf; arg 1; whnf)
      refine step_call_gu rfl CEL.out _ _ rfl #[.agg #[.slice A nb c, .slice B k d, .slice (some ⟨b3, o3, none⟩) nl e, .int .i64 m.cache.hand, .int .i64 m.tags.count, .int .i64 m.tags.next, .int .i64 m.tags.round, .slice O no g, .int .i64 m.space], .agg #[.bool true, .int .i64 x.tag, .int .i64 x.page, .int .i64 x.frame, .int .i64 x.rights, .bool x.wired]] rfl (CL.out _ ⟨HB.out.ex HQ.out.drew, HF.out.ex HQ.out.drew, HL.out.ex HQ.out.drew, HO.out.ex HQ.out.drew⟩) ?_; rintro r wa ⟨rfl, hwa⟩; refine ⟨_, rfl, ?_⟩; have hxa := Ex.trans (Ex.refl _).drew hwa
      refine hK.out _ _ ?r1_hS15 (fun hHeld15 => ?_)
      case r1_hS15 => exact FK.out _ hxa
      clear hK K hHeld
      try simp only [Act.put, List.setIfInBounds_toArray, List.set_cons_zero, List.set_cons_succ]
      refine tk 16 ?_; refine tk 17 ?_
      refine wpAnyH_done (by kernel_rfl) ?_ _
      go_wp2
      go_ret
      exact HNO.out _ (HQ.out.trans hxa) HBAD.out
     ·rw [hlf] at CL
      have HFF := zq (HNEXT.out (fun _ => lineFitsB_iff.1 hlf))
      clear hv hlf
      go_wp2_with fail
      clear q0 q1 q2 q3 q4 q5 q6 q7 q8 jM
      have FK : Hid (∀ w', Ex wr w' → (w'.cell? ⟨gm, 0, none⟩ = some (.slice A nb c) ∧ w'.cell? ⟨gm, 1, none⟩ = some (.slice B k d) ∧ w'.cell? ⟨gm, 2, none⟩ = some (.slice (some ⟨b3, o3, none⟩) nl e) ∧ w'.cell? ⟨gm, 3, none⟩ = some (.int .i64 m.cache.hand) ∧ w'.cell? ⟨gm, 4, none⟩ = some (.int .i64 m.tags.count) ∧ w'.cell? ⟨gm, 5, none⟩ = some (.int .i64 m.tags.next) ∧ w'.cell? ⟨gm, 6, none⟩ = some (.int .i64 m.tags.round) ∧ w'.cell? ⟨gm, 7, none⟩ = some (.slice O no g) ∧ w'.cell? ⟨gm, 8, none⟩ = some (.int .i64 m.space) ∧ w'.cell? ⟨b3, o3 + q * 6, none⟩ = some (.bool true) ∧ w'.cell? ⟨b3, o3 + q * 6 + 1, none⟩ = some (.int .i64 x.tag) ∧ w'.cell? ⟨b3, o3 + q * 6 + 2, none⟩ = some (.int .i64 x.page) ∧ w'.cell? ⟨b3, o3 + q * 6 + 3, none⟩ = some (.int .i64 x.frame) ∧ w'.cell? ⟨b3, o3 + q * 6 + 4, none⟩ = some (.int .i64 x.rights) ∧ w'.cell? ⟨b3, o3 + q * 6 + 5, none⟩ = some (.bool x.wired))) := zq (fun w' h => ⟨(KQ.out.ex h).c9.1, (KQ.out.ex h).c9.2.1, (KQ.out.ex h).c9.2.2.1, (KQ.out.ex h).c9.2.2.2.1, (KQ.out.ex h).c9.2.2.2.2.1, (KQ.out.ex h).c9.2.2.2.2.2.1, (KQ.out.ex h).c9.2.2.2.2.2.2.1, (KQ.out.ex h).c9.2.2.2.2.2.2.2.1, (KQ.out.ex h).c9.2.2.2.2.2.2.2.2, (h.cell hb3).trans k0, (h.cell hb3).trans k1, (h.cell hb3).trans k2, (h.cell hb3).trans k3, (h.cell hb3).trans k4, (h.cell hb3).trans k5⟩)
      clear k0 k1 k2 k3 k4 k5
      refine wp_region_held_drew (S := (fun w' => (w'.cell? ⟨gm, 0, none⟩ = some (.slice A nb c) ∧ w'.cell? ⟨gm, 1, none⟩ = some (.slice B k d) ∧ w'.cell? ⟨gm, 2, none⟩ = some (.slice (some ⟨b3, o3, none⟩) nl e) ∧ w'.cell? ⟨gm, 3, none⟩ = some (.int .i64 m.cache.hand) ∧ w'.cell? ⟨gm, 4, none⟩ = some (.int .i64 m.tags.count) ∧ w'.cell? ⟨gm, 5, none⟩ = some (.int .i64 m.tags.next) ∧ w'.cell? ⟨gm, 6, none⟩ = some (.int .i64 m.tags.round) ∧ w'.cell? ⟨gm, 7, none⟩ = some (.slice O no g) ∧ w'.cell? ⟨gm, 8, none⟩ = some (.int .i64 m.space) ∧ w'.cell? ⟨b3, o3 + q * 6, none⟩ = some (.bool true) ∧ w'.cell? ⟨b3, o3 + q * 6 + 1, none⟩ = some (.int .i64 x.tag) ∧ w'.cell? ⟨b3, o3 + q * 6 + 2, none⟩ = some (.int .i64 x.page) ∧ w'.cell? ⟨b3, o3 + q * 6 + 3, none⟩ = some (.int .i64 x.frame) ∧ w'.cell? ⟨b3, o3 + q * 6 + 4, none⟩ = some (.int .i64 x.rights) ∧ w'.cell? ⟨b3, o3 + q * 6 + 5, none⟩ = some (.bool x.wired)))) (by kernel_rfl) ?r2_hS0 (fun hHeld => ?_)
      case r2_hS0 => exact FK.out _ (Ex.refl _).drew
      refine tk 0 ?_; refine tk 1 ?_; refine tk 2 ?_; refine tk 3 ?_; refine tk 4 ?_; refine tk 5 ?_; refine tk 6 ?_; refine tk 7 ?_; refine tk 8 ?_; refine tk 9 ?_; refine tk 10 ?_; refine tk 11 ?_; refine tk 12 ?_; refine tk 13 ?_
      refine tk 14 ?_
      refine wpAnyH_ready (rs := [15]) (by kernel_rfl) (by simp) ?_
      refine AllReadyH.cons (o := ?r2_o15) ?r2_ho15 (fun K hK => ?_) AllReadyH.nil
      case r2_ho15 => (conv => lhs; whnf; arg 1; whnf)
      refine step_call_gu rfl CEL.out _ _ rfl #[.agg #[.slice A nb c, .slice B k d, .slice (some ⟨b3, o3, none⟩) nl e, .int .i64 m.cache.hand, .int .i64 m.tags.count, .int .i64 m.tags.next, .int .i64 m.tags.round, .slice O no g, .int .i64 m.space], .agg #[.bool true, .int .i64 x.tag, .int .i64 x.page, .int .i64 x.frame, .int .i64 x.rights, .bool x.wired]] rfl (CL.out _ ⟨HB.out.ex HQ.out.drew, HF.out.ex HQ.out.drew, HL.out.ex HQ.out.drew, HO.out.ex HQ.out.drew⟩) ?_; rintro r wa ⟨rfl, hwa⟩; refine ⟨_, rfl, ?_⟩; have hxa := Ex.trans (Ex.refl _).drew hwa
      refine hK.out _ _ ?r2_hS15 (fun hHeld15 => ?_)
      case r2_hS15 => exact FK.out _ hxa
      clear hK K hHeld
      try simp only [Act.put, List.setIfInBounds_toArray, List.set_cons_zero, List.set_cons_succ]
      refine tk 16 ?_; refine tk 17 ?_
      refine wpAnyH_done (by kernel_rfl) ?_ _
      go_wp2
      go_roundw
      case rel => exact ⟨q + 1, by omega, by go_num, HQ4.out.trans hxa, HFF.out⟩
      case measure => simp [intOf]; omega
    ·obtain rfl : q = nl := by omega
     obtain ⟨q0, q1, q2, q3, q4, q5, q6, q7, q8⟩ := KQ.out.c9
     have jM := KQ.out.lt
     go_wp2
     go_ret
     exact ⟨ret_bool (machV_yes ⟨HOK.out, HFA.out, fun i x h => HALL.out i x (by have := getElem?_lt h; have := HNL.out; omega) h⟩).symm, HQ.out⟩

set_option maxHeartbeats 2000000 in
theorem l3Copy_c (t : TableD) (A : Option Addr) (c : Nat) (B : Option Addr) (d : Nat) (w : World) (hx : Rd w A t.buckets) (hy : Rd w B t.frames) (hn : t.buckets.length ≤ 1048576) (hm : t.frames.length ≤ 1048576) (hc : t.buckets.length ≤ c) (hd : t.frames.length ≤ d) (hc2 : c ≤ maxLen) (hd2 : d ≤ maxLen) :
  Calls Tryz.prog 82 #[.agg #[.slice A t.buckets.length c, .slice B t.frames.length d]] w fun r w' => ∃ A' c' B' d', r = .returned (.agg #[.slice A' t.buckets.length c', .slice B' t.frames.length d']) ∧ Fr 3 w' w.heap.size A' c' t.buckets ∧ Fr 45 w' w.heap.size B' d' t.frames ∧ Ex w w' := by
 have HX := zq hx
 have HY := zq hy
 clear hx hy
 obtain ⟨i0, hi, hz0, hz1, hz2⟩ := info_parts infoMInt
 obtain ⟨i1, gi, gz0, gz1, gz2⟩ := info_parts infoMFrame
 obtain ⟨xs, ys⟩ := t
 simp only at HX HY hn hm hc hd ⊢
 go_enter Tryz.func82, Tryz.ntmps82
 go_wp2_with fail
 obtain ⟨w0, hw0⟩ : ∃ w0 : World, w0 = ((w.alloc (.cells #[.slice A xs.length c, .slice B ys.length d] 26)).alloc (.cells #[.slice none 0 0, .slice none 0 0] 26)) := ⟨_, rfl⟩
 have E0 : Hid (Ex w w0) := zq (by rw [hw0]; exact ((Ex.refl w).alloc _).alloc _)
 have KC : Hid (Blk w0 w.heap.size 26 [.slice A xs.length c, .slice B ys.length d]) := zq (by rw [hw0]; exact (Blk.new _ _ _).alloc _)
 have KR : Hid (Blk w0 (w.heap.size + 1) 26 [.slice none 0 0, .slice none 0 0]) := zq (by rw [hw0]; exact Blk.new_at _ _ _ (by simp))
 have HX0 : Hid (Rd w0 A xs) := zq (HX.out.ex E0.out)
 have HY0 : Hid (Rd w0 B ys) := zq (HY.out.ex E0.out)
 have H63 : Hid (0 + xs.length ≤ maxLen) := zq (by simp [maxLen]; omega)
 have H64 : Hid (0 + ys.length ≤ maxLen) := zq (by simp [maxLen]; omega)
 have HBY : Hid ((0 + xs.length) * 8 ≤ 140737488355328) := zq (by omega)
 have HBZ : Hid ((0 + ys.length) * 40 ≤ 140737488355328) := zq (by omega)
 have HO : Hid (∀ (w1 : World) (a : Option Addr), Fr 3 w1 w0.heap.size a 0 ([] : List Int)) := zq (fun w1 a => Fr.none_ _ _ _ _)
 have HP : Hid (∀ (w1 : World) (a : Option Addr), Fr 45 w1 w0.heap.size a 0 ([] : List FrameD)) := zq (fun w1 a => Fr.none_ _ _ _ _)
 have HBG : Hid (∀ (w1 w2 : World) (a : Option Addr), Ex w0 w1 → w1.grownBy w2 (rowOf a 0) → Ex w0 w2) := zq (fun w1 w2 a h hg => h.grown hg (by rintro k hk; simp [rowOf] at hk))
 obtain ⟨gc, hgc⟩ : ∃ gc : Nat, gc = w.heap.size := ⟨_, rfl⟩
 rw [← hw0, ← hgc]
 rw [← hgc] at KC KR
 have HG := zq hgc
 have FK : Hid (∀ w', Ex w0 w' → (w'.cell? ⟨gc, 0, none⟩ = some (.slice A xs.length c) ∧ w'.cell? ⟨gc, 1, none⟩ = some (.slice B ys.length d))) := zq (fun w' h => (KC.out.ex h).c2)
 clear hw0 hgc HX HY
 go_region_held3 (fun w' => (w'.cell? ⟨gc, 0, none⟩ = some (.slice A xs.length c) ∧ w'.cell? ⟨gc, 1, none⟩ = some (.slice B ys.length d))) (first | (refine FK.out _ ?_; (repeat' (first | with_reducible exact Ex.refl _ | with_reducible exact hbb | with_reducible exact hba | with_reducible refine Ex.alloc ?_ _ | with_reducible refine Ex.drew ?_)); done) | go_keep) (first
  | (refine step_append_fr (α := Int) rfl _ _ 23 rfl 3 i0 _ 8 w0.heap.size Tryz.underlying23 hi hz0 hz1 hz2 rfl _ 0 0 [] rfl rfl (HO.out _ _) A c _ xs rfl rfl (HX0.out.ex (by with_reducible repeat' (first | exact Ex.refl _ | refine Ex.alloc ?_ _ | refine Ex.drew ?_))) H63.out HBY.out (Ex.size (by with_reducible repeat' (first | exact Ex.refl _ | refine Ex.alloc ?_ _ | refine Ex.drew ?_))) ?_; intro A2 c2 w2 ha; have hba := HBG.out _ _ _ (by with_reducible repeat' (first | exact Ex.refl _ | refine Ex.alloc ?_ _ | refine Ex.drew ?_)) ha.grown; have hr := Blk.ex KR.out hba; obtain ⟨hr0, hr1⟩ := hr.c2; have hrf := hr.frozen; have hrl := hr.lt; clear hr)
  | (refine step_append_fr (α := FrameD) rfl _ _ 24 rfl 45 i1 _ 40 w0.heap.size Tryz.underlying24 gi gz0 gz1 gz2 rfl _ 0 0 [] rfl rfl (HP.out _ _) B d _ ys rfl rfl (HY0.out.ex (by with_reducible repeat' (first | exact Ex.refl _ | exact hba | refine Ex.alloc ?_ _ | refine Ex.drew ?_))) H64.out HBZ.out (Ex.size (by with_reducible repeat' (first | exact Ex.refl _ | exact hba | refine Ex.alloc ?_ _ | refine Ex.drew ?_))) ?_; intro B2 d2 w4 hb; have hbb := HBG.out _ _ _ (by with_reducible repeat' (first | exact Ex.refl _ | exact hba | refine Ex.alloc ?_ _ | refine Ex.drew ?_)) hb.grown; clear hr0 hr1 hrf hrl; have hr := Blk.ex KR.out hbb; obtain ⟨hr0, hr1⟩ := hr.c2; have hrf := hr.frozen; have hrl := hr.lt; clear hr; obtain ⟨hk0, hk1⟩ := FK.out _ hbb; have hec : Ex w2 w4 := Ex.grown (a := w2) (by with_reducible repeat' (first | exact Ex.refl _ | refine Ex.alloc ?_ _ | refine Ex.drew ?_)) hb.grown (by rintro k hk; simp [rowOf] at hk)))
 all_goals
  rename_i hHeld
  clear hHeld hk0 hk1 hr0 hr1 hrf hrl
  simp only [List.nil_append] at ha hb
  try simp only [Nat.zero_add]
  have HFA := zq (ha.fr.ex hec)
  have HFB := zq hb.fr
  have HBB := zq hbb
  clear ha hb hba hbb hec
  have hr := Blk.set (Blk.set (Blk.ex KR.out HBB.out) 0 (.slice A2 xs.length c2)) 1 (.slice B2 ys.length d2)
  obtain ⟨hr0, hr1⟩ := Blk.c2 hr
  have hl := hr.lt
  clear hr
  have HL := zq KR.out.lt
  have HL2 := zq E0.out.size
  have hgl : w.heap.size ≤ gc + 1 := by have := HG.out; omega
  go_wp2
  exact bodyPost_ret (v := .agg #[.slice A2 xs.length c2, .slice B2 ys.length d2]) (by simp [results, Tryz.results82, go_sem, *]) rfl
   ⟨A2, c2, B2, d2, rfl, Fr.mono (B := w0.heap.size) (by repeat' (first | exact HFA.out | with_reducible refine Fr.set_below ?_ HL.out _)) HL2.out, Fr.mono (B := w0.heap.size) (by repeat' (first | exact HFB.out | with_reducible refine Fr.set_below ?_ HL.out _)) HL2.out, by repeat' (first | exact E0.out.trans HBB.out | with_reducible refine Ex.set ?_ hgl _)⟩

/-- The four slices are the call's own: they lie from block B on. -/
structure FrM (w : World) (B : Nat) (m : MachD) (a : MA) : Prop where
 b : Fr 3 w B a.b a.bc m.table.buckets
 f : Fr 45 w B a.f a.fc m.table.frames
 l : Fr 64 w B a.l a.lc m.cache.lines
 o : Fr 93 w B a.o a.oc m.tags.owns
section
variable {w w' : World} {B B' : Nat} {m : MachD} {a : MA}
theorem FrM.has (h : FrM w B m a) : HasM w m a := ⟨h.b.rd, h.f.rd, h.l.rd, h.o.rd⟩
theorem FrM.cap (h : FrM w B m a) : CapM m a := ⟨h.b.le, h.f.le, h.l.le, h.o.le⟩
theorem FrM.ex (h : FrM w B m a) (k : Ex w w') : FrM w' B m a := ⟨h.b.ex k, h.f.ex k, h.l.ex k, h.o.ex k⟩
theorem FrM.alloc (h : FrM w B m a) (o : Obj) : FrM (w.alloc o) B m a := h.ex ((Ex.refl w).alloc o)
theorem FrM.put (h : FrM w B m a) {g o : Nat} (hg : g < B) (v : Value) : FrM (w.setCell ⟨g, o, none⟩ v) B m a :=
 ⟨h.b.set_below hg v, h.f.set_below hg v, h.l.set_below hg v, h.o.set_below hg v⟩
theorem FrM.chg {lo hi : Nat} (h : FrM w B m a) (k : Chg lo hi w w') (hn : hi ≤ B) : FrM w' B m a :=
 ⟨h.b.chg k (l := B) (u := w.heap.size) h.b.row (by omega), h.f.chg k (l := B) (u := w.heap.size) h.f.row (by omega), h.l.chg k (l := B) (u := w.heap.size) h.l.row (by omega), h.o.chg k (l := B) (u := w.heap.size) h.o.row (by omega)⟩
theorem FrM.mono (h : FrM w B m a) (hB : B' ≤ B) : FrM w B' m a := ⟨h.b.mono hB, h.f.mono hB, h.l.mono hB, h.o.mono hB⟩
end


def fitsB (x : LineD) (tag page : Int) : Bool := x.valid && ((x.page == page) && ((x.tag == tag) || (x.tag == -1)))
theorem fits_split (x : LineD) (tag page : Int) :
  (x.valid = false ∧ fitsB x tag page = false) ∨ (x.valid = true ∧ (x.page == page) = false ∧ fitsB x tag page = false) ∨ (x.valid = true ∧ (x.page == page) = true ∧ (x.tag == tag) = true ∧ fitsB x tag page = true) ∨
  (x.valid = true ∧ (x.page == page) = true ∧ (x.tag == tag) = false ∧ (x.tag == -1) = true ∧ fitsB x tag page = true) ∨ (x.valid = true ∧ (x.page == page) = true ∧ (x.tag == tag) = false ∧ (x.tag == -1) = false ∧ fitsB x tag page = false) := by
 unfold fitsB
 cases x.valid <;> cases (x.page == page) <;> cases (x.tag == tag) <;> cases (x.tag == -1) <;> simp

def placeOf (xs : List LineD) (tag page : Int) : Int := firstOf (fun x => fitsB x tag page) xs

set_option maxHeartbeats 1000000 in
theorem l4Fits_c (x : LineD) (tag page : Int) (w : World) : Calls Tryz.prog 112 #[.agg #[.bool x.valid, .int .i64 x.tag, .int .i64 x.page, .int .i64 x.frame, .int .i64 x.rights, .bool x.wired], .int .i64 tag, .int .i64 page] w fun r w' => r = .returned (.bool (fitsB x tag page)) ∧ Ex w w' := by
 rcases fits_split x tag page with ⟨h1, e⟩ | ⟨h1, h2, e⟩ | ⟨h1, h2, h3, e⟩ | ⟨h1, h2, h3, h4, e⟩ | ⟨h1, h2, h3, h4, e⟩
 all_goals
  rw [e]
  clear e
  go_enter Tryz.func112, Tryz.ntmps112
  go_wp2
  go_ret
  exact ⟨rfl, (Ex.refl _).alloc _⟩

set_option maxHeartbeats 1000000 in
theorem l4Find_c (t : CacheD) (tag page : Int) (A : Option Addr) (c : Nat) (w : World) (hx : Rd w A t.lines) (hn : t.lines.length ≤ 1048576) :
  Calls Tryz.prog 104 #[.agg #[.slice A t.lines.length c, .int .i64 t.hand], .int .i64 tag, .int .i64 page] w fun r w' => r = .returned (.int .i64 (placeOf t.lines tag page)) ∧ Ex w w' := by
 obtain ⟨xs, hand⟩ := t
 simp only at hx hn ⊢
 have B1 := zq (fun k x => @firstOf_at _ (fun x => fitsB x tag page) xs k x)
 have B2 := zq (@firstOf_none _ (fun x => fitsB x tag page) xs)
 unfold placeOf
 generalize firstOf (fun x => fitsB x tag page) xs = res at *
 obtain ⟨n, hn1⟩ : ∃ n, n = xs.length := ⟨_, rfl⟩
 have HN := zq hn1
 rw [← hn1] at B2 hn ⊢
 have HX := zq hx
 clear hn1 hx
 go_enter Tryz.func104, Tryz.ntmps104
 go_wp2
 obtain ⟨w0, hw0⟩ : ∃ w0 : World, w0 = w.alloc (.cells #[.slice A n c, .int .i64 hand] 29) := ⟨_, rfl⟩
 obtain ⟨gb, hgb⟩ : ∃ gb : Nat, gb = w.heap.size := ⟨_, rfl⟩
 have K0 : Hid (Blk w0 gb 29 [.slice A n c, .int .i64 hand]) := zq (by rw [hw0, hgb]; exact Blk.new w _ _)
 have E0 : Hid (Ex w w0) := zq (by rw [hw0]; exact (Ex.refl w).alloc _)
 rw [← hw0, ← hgb]
 clear hw0 hgb
 go_loopw [7] (fun i wr => ∃ k : Nat, k ≤ n ∧ i = .int .i64 k ∧ Ex w0 wr ∧ ∀ (j : Nat) (y : LineD), j < k → xs[j]? = some y → fitsB y tag page = false) (fun i _ => n - (intOf i).toNat)
 case atStart => exact ⟨0, Nat.zero_le _, rfl, Ex.refl _, fun j y h => by omega⟩
 case round =>
  obtain ⟨k, hk, rfl, hbel, hcl⟩ := hrel
  have HB := zq hbel
  have HCL := zq hcl
  clear hbel hcl
  obtain ⟨q0, q1⟩ := (K0.out.ex HB.out).c2
  have lb := (K0.out.ex HB.out).lt
  by_cases hlt : k < n
  ·obtain ⟨b1, o1, x, rfl, hb1, hxk, h0, h1, h2, h3, h4, h5⟩ := Rd.line ((HX.out.ex E0.out).ex HB.out) (k := k) (by have := HN.out; omega)
   have HXK := zq hxk
   clear hxk
   go_wp2_with fail
   refine (l4Fits_c x tag page _).mono ?_
   rintro r w2 ⟨rfl, hb2⟩
   have HB2 := zq hb2
   clear hb2 h0 h1 h2 h3 h4 h5
   cases hv : fitsB x tag page
   ·have HV := zq hv
    go_wp2
    go_roundw
    case rel => exact ⟨k + 1, by omega, by go_num, HB.out.trans HB2.out, fun j z hj hz => by
     by_cases e : j = k
     ·subst e
      have := HXK.out
      rw [this] at hz
      injection hz with hz
      rw [← hz]; exact HV.out
     ·exact HCL.out j z (by omega) hz⟩
    case measure => simp [intOf]; omega
   ·obtain rfl : res = (k : Int) := B1.out k x HXK.out hv HCL.out
    go_wp2
    go_ret
    exact ⟨rfl, (E0.out.trans HB.out).trans HB2.out⟩
  ·obtain rfl : k = n := by omega
   obtain rfl : res = -1 := B2.out HCL.out
   go_wp2
   go_ret
   exact ⟨rfl, E0.out.trans HB.out⟩

def findLine (t : CacheD) (tag page : Int) : Int × Bool :=
 if cacheV t then if tagB tag then if inB page 256 then if 0 ≤ placeOf t.lines tag page then (placeOf t.lines tag page, true) else (0, false) else (0, false) else (0, false) else (0, false)

set_option maxHeartbeats 1000000 in
theorem findLineS_c (t : CacheD) (tag page : Int) (A : Option Addr) (c : Nat) (w : World) (hx : Rd w A t.lines) (hn : t.lines.length ≤ 1048576) (hcap : t.lines.length ≤ c) :
  Calls Tryz.prog 119 #[.agg #[.slice A t.lines.length c, .int .i64 t.hand], .int .i64 tag, .int .i64 page] w fun r w' => r = .returned (.tuple #[.int .i64 (findLine t tag page).1, .bool (findLine t tag page).2]) ∧ Ex w w' := by
 have HX := zq hx
 clear hx
 unfold findLine
 cases h1 : cacheV t
 ·go_enter Tryz.func119, Tryz.ntmps119
  go_wp2_with fail
  refine (cacheValidS_c t A c _ (HX.out.alloc _) hn hcap).mono ?_; rintro r w1 ⟨rfl, hb1⟩
  have s1 : w.heap.size ≤ w1.heap.size := by have := hb1.size; first | omega | (simp at this; omega)
  have E1 : Hid (Ex w w1) := zq (by first | exact (Ex.refl w).trans hb1 | exact ((Ex.refl w).alloc _).trans hb1 | exact (((Ex.refl w).alloc _).alloc _).trans hb1 | exact ((((Ex.refl w).alloc _).alloc _).alloc _).trans hb1 | exact (((((Ex.refl w).alloc _).alloc _).alloc _).alloc _).trans hb1 | exact ((((((Ex.refl w).alloc _).alloc _).alloc _).alloc _).alloc _).trans hb1 | exact (((((((Ex.refl w).alloc _).alloc _).alloc _).alloc _).alloc _).alloc _).trans hb1)
  have KX : Hid (Blk w1 (w.heap.size) 29 [.slice A t.lines.length c, .int .i64 t.hand]) := zq (by first | exact (Blk.new_at _ _ _ (by simp)).ex hb1 | exact ((Blk.new_at _ _ _ (by simp)).alloc _).ex hb1 | exact (((Blk.new_at _ _ _ (by simp)).alloc _).alloc _).ex hb1 | exact ((((Blk.new_at _ _ _ (by simp)).alloc _).alloc _).alloc _).ex hb1 | exact (((((Blk.new_at _ _ _ (by simp)).alloc _).alloc _).alloc _).alloc _).ex hb1)
  obtain ⟨qX0, qX1⟩ := KX.out.c2
  have lX := KX.out.lt
  have HB1 := zq hb1; clear hb1
  rw [h1]
  go_wp2
  go_ret2
  exact ⟨rfl, E1.out⟩
 cases h2 : tagB tag
 ·go_enter Tryz.func119, Tryz.ntmps119
  go_wp2_with fail
  refine (cacheValidS_c t A c _ (HX.out.alloc _) hn hcap).mono ?_; rintro r w1 ⟨rfl, hb1⟩
  have s1 : w.heap.size ≤ w1.heap.size := by have := hb1.size; first | omega | (simp at this; omega)
  have E1 : Hid (Ex w w1) := zq (by first | exact (Ex.refl w).trans hb1 | exact ((Ex.refl w).alloc _).trans hb1 | exact (((Ex.refl w).alloc _).alloc _).trans hb1 | exact ((((Ex.refl w).alloc _).alloc _).alloc _).trans hb1 | exact (((((Ex.refl w).alloc _).alloc _).alloc _).alloc _).trans hb1 | exact ((((((Ex.refl w).alloc _).alloc _).alloc _).alloc _).alloc _).trans hb1 | exact (((((((Ex.refl w).alloc _).alloc _).alloc _).alloc _).alloc _).alloc _).trans hb1)
  have KX : Hid (Blk w1 (w.heap.size) 29 [.slice A t.lines.length c, .int .i64 t.hand]) := zq (by first | exact (Blk.new_at _ _ _ (by simp)).ex hb1 | exact ((Blk.new_at _ _ _ (by simp)).alloc _).ex hb1 | exact (((Blk.new_at _ _ _ (by simp)).alloc _).alloc _).ex hb1 | exact ((((Blk.new_at _ _ _ (by simp)).alloc _).alloc _).alloc _).ex hb1 | exact (((((Blk.new_at _ _ _ (by simp)).alloc _).alloc _).alloc _).alloc _).ex hb1)
  obtain ⟨qX0, qX1⟩ := KX.out.c2
  have lX := KX.out.lt
  have HB1 := zq hb1; clear hb1
  rw [h1]
  go_wp2_with fail
  refine (l4Tag_c tag _).mono ?_
  rintro r w2 ⟨rfl, rfl⟩
  rw [h2]
  go_wp2
  go_ret2
  exact ⟨rfl, E1.out⟩
 cases h3 : inB page 256
 ·go_enter Tryz.func119, Tryz.ntmps119
  go_wp2_with fail
  refine (cacheValidS_c t A c _ (HX.out.alloc _) hn hcap).mono ?_; rintro r w1 ⟨rfl, hb1⟩
  have s1 : w.heap.size ≤ w1.heap.size := by have := hb1.size; first | omega | (simp at this; omega)
  have E1 : Hid (Ex w w1) := zq (by first | exact (Ex.refl w).trans hb1 | exact ((Ex.refl w).alloc _).trans hb1 | exact (((Ex.refl w).alloc _).alloc _).trans hb1 | exact ((((Ex.refl w).alloc _).alloc _).alloc _).trans hb1 | exact (((((Ex.refl w).alloc _).alloc _).alloc _).alloc _).trans hb1 | exact ((((((Ex.refl w).alloc _).alloc _).alloc _).alloc _).alloc _).trans hb1 | exact (((((((Ex.refl w).alloc _).alloc _).alloc _).alloc _).alloc _).alloc _).trans hb1)
  have KX : Hid (Blk w1 (w.heap.size) 29 [.slice A t.lines.length c, .int .i64 t.hand]) := zq (by first | exact (Blk.new_at _ _ _ (by simp)).ex hb1 | exact ((Blk.new_at _ _ _ (by simp)).alloc _).ex hb1 | exact (((Blk.new_at _ _ _ (by simp)).alloc _).alloc _).ex hb1 | exact ((((Blk.new_at _ _ _ (by simp)).alloc _).alloc _).alloc _).ex hb1 | exact (((((Blk.new_at _ _ _ (by simp)).alloc _).alloc _).alloc _).alloc _).ex hb1)
  obtain ⟨qX0, qX1⟩ := KX.out.c2
  have lX := KX.out.lt
  have HB1 := zq hb1; clear hb1
  rw [h1]
  go_wp2_with fail
  refine (l4Tag_c tag _).mono ?_
  rintro r w2 ⟨rfl, rfl⟩
  rw [h2]
  go_wp2_with fail
  refine (l1Page_c page _).mono ?_
  rintro r w2 ⟨rfl, rfl⟩
  rw [h3]
  go_wp2
  go_ret2
  exact ⟨rfl, E1.out⟩
 by_cases h4 : placeOf t.lines tag page < 0
 ·have h4' : ¬ 0 ≤ placeOf t.lines tag page := by omega
  go_enter Tryz.func119, Tryz.ntmps119
  go_wp2_with fail
  refine (cacheValidS_c t A c _ (HX.out.alloc _) hn hcap).mono ?_; rintro r w1 ⟨rfl, hb1⟩
  have s1 : w.heap.size ≤ w1.heap.size := by have := hb1.size; first | omega | (simp at this; omega)
  have E1 : Hid (Ex w w1) := zq (by first | exact (Ex.refl w).trans hb1 | exact ((Ex.refl w).alloc _).trans hb1 | exact (((Ex.refl w).alloc _).alloc _).trans hb1 | exact ((((Ex.refl w).alloc _).alloc _).alloc _).trans hb1 | exact (((((Ex.refl w).alloc _).alloc _).alloc _).alloc _).trans hb1 | exact ((((((Ex.refl w).alloc _).alloc _).alloc _).alloc _).alloc _).trans hb1 | exact (((((((Ex.refl w).alloc _).alloc _).alloc _).alloc _).alloc _).alloc _).trans hb1)
  have KX : Hid (Blk w1 (w.heap.size) 29 [.slice A t.lines.length c, .int .i64 t.hand]) := zq (by first | exact (Blk.new_at _ _ _ (by simp)).ex hb1 | exact ((Blk.new_at _ _ _ (by simp)).alloc _).ex hb1 | exact (((Blk.new_at _ _ _ (by simp)).alloc _).alloc _).ex hb1 | exact ((((Blk.new_at _ _ _ (by simp)).alloc _).alloc _).alloc _).ex hb1 | exact (((((Blk.new_at _ _ _ (by simp)).alloc _).alloc _).alloc _).alloc _).ex hb1)
  obtain ⟨qX0, qX1⟩ := KX.out.c2
  have lX := KX.out.lt
  have HB1 := zq hb1; clear hb1
  rw [h1]
  go_wp2_with fail
  refine (l4Tag_c tag _).mono ?_
  rintro r w2 ⟨rfl, rfl⟩
  rw [h2]
  go_wp2_with fail
  refine (l1Page_c page _).mono ?_
  rintro r w2 ⟨rfl, rfl⟩
  rw [h3]
  go_wp2_with fail
  refine (l4Find_c t tag page A c _ (HX.out.ex E1.out) hn).mono ?_; rintro r w2 ⟨rfl, hb2⟩
  have s2 : w1.heap.size ≤ w2.heap.size := by have := hb2.size; first | omega | (simp at this; omega)
  have E2 : Hid (Ex w w2) := zq (by first | exact E1.out.trans hb2 | exact (E1.out.alloc _).trans hb2 | exact ((E1.out.alloc _).alloc _).trans hb2 | exact (((E1.out.alloc _).alloc _).alloc _).trans hb2 | exact ((((E1.out.alloc _).alloc _).alloc _).alloc _).trans hb2 | exact (((((E1.out.alloc _).alloc _).alloc _).alloc _).alloc _).trans hb2 | exact ((((((E1.out.alloc _).alloc _).alloc _).alloc _).alloc _).alloc _).trans hb2)
  clear qX0 qX1 lX
  replace KX : Hid (Blk w2 (w.heap.size) 29 [.slice A t.lines.length c, .int .i64 t.hand]) := zq (by first | exact KX.out.ex hb2 | exact (KX.out.alloc _).ex hb2 | exact ((KX.out.alloc _).alloc _).ex hb2 | exact (((KX.out.alloc _).alloc _).alloc _).ex hb2 | exact ((((KX.out.alloc _).alloc _).alloc _).alloc _).ex hb2)
  obtain ⟨qX0, qX1⟩ := KX.out.c2
  have lX := KX.out.lt
  have HB2 := zq hb2; clear hb2
  go_wp2
  go_ret2
  exact ⟨by simp [*], E2.out⟩
 ·have h4' : 0 ≤ placeOf t.lines tag page := by omega
  go_enter Tryz.func119, Tryz.ntmps119
  go_wp2_with fail
  refine (cacheValidS_c t A c _ (HX.out.alloc _) hn hcap).mono ?_; rintro r w1 ⟨rfl, hb1⟩
  have s1 : w.heap.size ≤ w1.heap.size := by have := hb1.size; first | omega | (simp at this; omega)
  have E1 : Hid (Ex w w1) := zq (by first | exact (Ex.refl w).trans hb1 | exact ((Ex.refl w).alloc _).trans hb1 | exact (((Ex.refl w).alloc _).alloc _).trans hb1 | exact ((((Ex.refl w).alloc _).alloc _).alloc _).trans hb1 | exact (((((Ex.refl w).alloc _).alloc _).alloc _).alloc _).trans hb1 | exact ((((((Ex.refl w).alloc _).alloc _).alloc _).alloc _).alloc _).trans hb1 | exact (((((((Ex.refl w).alloc _).alloc _).alloc _).alloc _).alloc _).alloc _).trans hb1)
  have KX : Hid (Blk w1 (w.heap.size) 29 [.slice A t.lines.length c, .int .i64 t.hand]) := zq (by first | exact (Blk.new_at _ _ _ (by simp)).ex hb1 | exact ((Blk.new_at _ _ _ (by simp)).alloc _).ex hb1 | exact (((Blk.new_at _ _ _ (by simp)).alloc _).alloc _).ex hb1 | exact ((((Blk.new_at _ _ _ (by simp)).alloc _).alloc _).alloc _).ex hb1 | exact (((((Blk.new_at _ _ _ (by simp)).alloc _).alloc _).alloc _).alloc _).ex hb1)
  obtain ⟨qX0, qX1⟩ := KX.out.c2
  have lX := KX.out.lt
  have HB1 := zq hb1; clear hb1
  rw [h1]
  go_wp2_with fail
  refine (l4Tag_c tag _).mono ?_
  rintro r w2 ⟨rfl, rfl⟩
  rw [h2]
  go_wp2_with fail
  refine (l1Page_c page _).mono ?_
  rintro r w2 ⟨rfl, rfl⟩
  rw [h3]
  go_wp2_with fail
  refine (l4Find_c t tag page A c _ (HX.out.ex E1.out) hn).mono ?_; rintro r w2 ⟨rfl, hb2⟩
  have s2 : w1.heap.size ≤ w2.heap.size := by have := hb2.size; first | omega | (simp at this; omega)
  have E2 : Hid (Ex w w2) := zq (by first | exact E1.out.trans hb2 | exact (E1.out.alloc _).trans hb2 | exact ((E1.out.alloc _).alloc _).trans hb2 | exact (((E1.out.alloc _).alloc _).alloc _).trans hb2 | exact ((((E1.out.alloc _).alloc _).alloc _).alloc _).trans hb2 | exact (((((E1.out.alloc _).alloc _).alloc _).alloc _).alloc _).trans hb2 | exact ((((((E1.out.alloc _).alloc _).alloc _).alloc _).alloc _).alloc _).trans hb2)
  clear qX0 qX1 lX
  replace KX : Hid (Blk w2 (w.heap.size) 29 [.slice A t.lines.length c, .int .i64 t.hand]) := zq (by first | exact KX.out.ex hb2 | exact (KX.out.alloc _).ex hb2 | exact ((KX.out.alloc _).alloc _).ex hb2 | exact (((KX.out.alloc _).alloc _).alloc _).ex hb2 | exact ((((KX.out.alloc _).alloc _).alloc _).alloc _).ex hb2)
  obtain ⟨qX0, qX1⟩ := KX.out.c2
  have lX := KX.out.lt
  have HB2 := zq hb2; clear hb2
  go_wp2
  go_ret2
  exact ⟨by simp [*], E2.out⟩

/-- How far the hand turns from h, in steps of one round n, until p holds. -/
def turnOf (p : Nat → Bool) (n h : Nat) : Nat := ((List.range n).findIdx? fun d => p ((h + d) % n)).getD 0
theorem turnOf_spec {p : Nat → Bool} {n h k : Nat} (hh : h < n) (hk : k < n) (hp : p k = true) :
  turnOf p n h < n ∧ p ((h + turnOf p n h) % n) = true ∧ ∀ d, d < turnOf p n h → p ((h + d) % n) = false := by
 unfold turnOf
 cases e : (List.range n).findIdx? fun d => p ((h + d) % n) with
 | none =>
  exfalso
  rw [List.findIdx?_eq_none_iff] at e
  by_cases hkh : h ≤ k
  ·have := e (k - h) (List.mem_range.2 (by omega))
   rw [show h + (k - h) = k by omega, Nat.mod_eq_of_lt hk, hp] at this
   cases this
  ·have := e (k + n - h) (List.mem_range.2 (by omega))
   rw [show h + (k + n - h) = k + n by omega, Nat.add_mod_right, Nat.mod_eq_of_lt hk, hp] at this
   cases this
 | some d =>
  rw [List.findIdx?_eq_some_iff_getElem] at e
  obtain ⟨hd, h1, h2⟩ := e
  simp only [List.length_range] at hd
  simp only [List.getElem_range] at h1 h2
  refine ⟨hd, h1, fun j hj => ?_⟩
  have := h2 j hj
  simpa using this
/-- How many steps the hand has turned, read from where it stands. -/
theorem turn_back {n h d : Nat} (hh : h < n) (hd : d < n) : ((h + d) % n + n - h) % n = d := by
 by_cases e : h + d < n
 ·rw [Nat.mod_eq_of_lt e, show h + d + n - h = d + n by omega, Nat.add_mod_right, Nat.mod_eq_of_lt hd]
 ·have e1 : (h + d) % n = h + d - n := by rw [Nat.mod_eq_sub_mod (by omega), Nat.mod_eq_of_lt (by omega)]
  rw [e1, show h + d - n + n - h = d by omega, Nat.mod_eq_of_lt hd]

theorem turn_next {m h d k : Nat} (hm : m = (h + d) % k) : ((m : Int) + 1) % (k : Int) = (((h + (d + 1)) % k : Nat) : Int) := by
 have : (m + 1) % k = (h + (d + 1)) % k := by rw [hm, Nat.mod_add_mod]; rfl
 exact_mod_cast this

def freeAt (xs : List LineD) : Int := firstOf (fun x => !x.valid) xs
def looseAt (t : CacheD) : Nat := (t.hand.toNat + turnOf (fun k => !(t.lines.getD k noLine).wired) t.lines.length t.hand.toNat) % t.lines.length
def victimAt (t : CacheD) : Int := if 0 ≤ freeAt t.lines then freeAt t.lines else looseAt t
theorem victim_facts {t : CacheD} (hv : cacheV t = true) : ∃ h d0 : Nat, t.hand = (h : Int) ∧ h < t.lines.length ∧ t.lines.length ≤ 8 ∧ d0 < t.lines.length ∧
  (∀ (k : Nat) (x : LineD), t.lines[k]? = some x → x.valid = false → (∀ (j : Nat) (y : LineD), j < k → t.lines[j]? = some y → y.valid = true) → victimAt t = (k : Int)) ∧
  ((∀ (j : Nat) (y : LineD), j < t.lines.length → t.lines[j]? = some y → y.valid = true) → victimAt t = (((h + d0) % t.lines.length : Nat) : Int)) ∧
  (∀ (d : Nat) (x : LineD), d < d0 → t.lines[(h + d) % t.lines.length]? = some x → x.wired = true) ∧
  (∀ x : LineD, t.lines[(h + d0) % t.lines.length]? = some x → x.wired = false) := by
 obtain ⟨⟨h1, h2, h3, h4⟩, -, hl⟩ := (cacheV_iff t).1 hv
 unfold looseUp at hl
 rw [List.take_length, List.any_eq_true] at hl
 obtain ⟨x, hx, hw⟩ := hl
 obtain ⟨k, hk, rfl⟩ := List.getElem_of_mem hx
 obtain ⟨a1, a2, a3⟩ := turnOf_spec (p := fun k => !(t.lines.getD k noLine).wired) (n := t.lines.length) (h := t.hand.toNat) (k := k) (by omega) hk (by rw [getD_of (List.getElem?_eq_getElem hk)]; exact hw)
 refine ⟨t.hand.toNat, turnOf (fun k => !(t.lines.getD k noLine).wired) t.lines.length t.hand.toNat, by omega, by omega, by omega, a1, ?_, ?_, ?_, ?_⟩
 ·intro k x hx hf hb
  have : freeAt t.lines = (k : Int) := firstOf_at hx (by simp [hf]) (fun j y hj hy => by simp [hb j y hj hy])
  unfold victimAt; rw [this, if_pos (by omega)]
 ·intro hb
  have : freeAt t.lines = -1 := firstOf_none (fun j y hj hy => by simp [hb j y hj hy])
  unfold victimAt; rw [this, if_neg (by omega)]; rfl
 ·intro d x hd hx
  have := a3 d hd
  rw [getD_of hx] at this
  simpa using this
 ·intro x hx
  rw [getD_of hx] at a2
  simpa using a2

set_option maxHeartbeats 2000000 in
theorem l4Victim_c (t : CacheD) (A : Option Addr) (c : Nat) (w : World) (hx : Rd w A t.lines) (hc : t.lines.length ≤ c) (hv : cacheV t = true) :
  Calls Tryz.prog 118 #[.agg #[.slice A t.lines.length c, .int .i64 t.hand]] w fun r w' => r = .returned (.int .i64 (victimAt t)) ∧ Ex w w' := by
 obtain ⟨h, d0, e1, e2, e3, e4, b1, b2, b3, b4⟩ := victim_facts hv
 generalize victimAt t = res at *
 clear hv
 obtain ⟨xs, hand⟩ := t
 simp only at e1 e2 e3 e4 b1 b2 b3 b4 hx hc ⊢
 subst e1
 obtain ⟨n, hn1⟩ : ∃ n, n = xs.length := ⟨_, rfl⟩
 have HN := zq hn1
 rw [← hn1] at e2 e3 e4 b2 b3 b4 hc ⊢
 have HX := zq hx
 have B1 := zq b1
 have B2 := zq b2
 have B3 := zq b3
 have B4 := zq b4
 clear hn1 hx b1 b2 b3 b4
 go_enter Tryz.func118, Tryz.ntmps118
 go_wp2
 obtain ⟨w0, hw0⟩ : ∃ w0 : World, w0 = w.alloc (.cells #[.slice A n c, .int .i64 h] 29) := ⟨_, rfl⟩
 obtain ⟨gb, hgb⟩ : ∃ gb : Nat, gb = w.heap.size := ⟨_, rfl⟩
 have K0 : Hid (Blk w0 gb 29 [.slice A n c, .int .i64 h]) := zq (by rw [hw0, hgb]; exact Blk.new w _ _)
 have E0 : Hid (Ex w w0) := zq (by rw [hw0]; exact (Ex.refl w).alloc _)
 rw [← hw0, ← hgb]
 clear hw0 hgb
 go_loopw [3] (fun i wr => ∃ k : Nat, k ≤ n ∧ i = .int .i64 k ∧ Ex w0 wr ∧ ∀ (j : Nat) (y : LineD), j < k → xs[j]? = some y → y.valid = true) (fun i _ => n - (intOf i).toNat)
 case atStart => exact ⟨0, Nat.zero_le _, rfl, Ex.refl _, fun j y h => by omega⟩
 case round =>
  obtain ⟨k, hk, rfl, hbel, hcl⟩ := hrel
  have HB := zq hbel
  have HCL := zq hcl
  clear hbel hcl
  obtain ⟨q0, q1⟩ := (K0.out.ex HB.out).c2
  have lb := (K0.out.ex HB.out).lt
  by_cases hlt : k < n
  ·obtain ⟨a1, o1, x, rfl, hb1, hxk, h0, h1, h2, h3, h4, h5⟩ := Rd.line ((HX.out.ex E0.out).ex HB.out) (k := k) (by have := HN.out; omega)
   have HXK := zq hxk
   clear hxk
   cases hv : x.valid
   ·obtain rfl : res = (k : Int) := B1.out k x HXK.out hv HCL.out
    rw [hv] at h0
    go_wp2
    go_ret
    exact ⟨rfl, E0.out.trans HB.out⟩
   ·have HV := zq hv
    rw [hv] at h0
    go_wp2
    go_roundw
    case rel => exact ⟨k + 1, by omega, by go_num, HB.out, fun j z hj hz => by
     by_cases e : j = k
     ·subst e
      have := HXK.out
      rw [this] at hz
      injection hz with hz
      rw [← hz]; exact HV.out
     ·exact HCL.out j z (by omega) hz⟩
    case measure => simp [intOf]; omega
  ·obtain rfl : k = n := by omega
   obtain rfl : res = _ := B2.out HCL.out
   go_wp2
   have HE : Hid (Ex w wr) := zq (E0.out.trans HB.out)
   have KR : Hid (Blk wr gb 29 [.slice A k c, .int .i64 h]) := zq (K0.out.ex HB.out)
   have HXR : Hid (Rd wr A xs) := zq (HX.out.ex HE.out)
   clear HCL q0 q1 lb HX K0 hlt hk
   go_loopw [4] (fun a wi => ∃ d : Nat, d ≤ d0 ∧ a = .int .i64 (((h + d) % k : Nat) : Int) ∧ Ex wr wi) (fun a _ => d0 - (((intOf a).toNat + k - h) % k))
   case atStart => exact ⟨0, by omega, by rw [Nat.add_zero, Nat.mod_eq_of_lt e2], Ex.refl _⟩
   case round =>
    obtain ⟨d, hd, rfl, hbel⟩ := hrel
    have HBI := zq hbel
    clear hbel
    obtain ⟨q0, q1⟩ := (KR.out.ex HBI.out).c2
    have lb := (KR.out.ex HBI.out).lt
    obtain ⟨m, hm⟩ : ∃ m, m = (h + d) % k := ⟨_, rfl⟩
    have hmk : m < k := by rw [hm]; exact Nat.mod_lt _ (by omega)
    have HM := zq hm
    rw [← hm]
    clear hm
    obtain ⟨a1, o1, x, rfl, hb1, hxk, h0, h1, h2, h3, h4, h5⟩ := Rd.line (HXR.out.ex HBI.out) (k := m) (by have := HN.out; omega)
    have HXK := zq hxk
    clear hxk h0 h1 h2 h3 h4
    have hm0 : ¬ ((m : Int) < 0) := by omega
    by_cases hdd : d = d0
    ·subst hdd
     have hw : x.wired = false := B4.out x (by rw [← HM.out]; exact HXK.out)
     rw [hw] at h5
     go_wp2
     go_ret
     exact ⟨ret_int (by rw [HM.out]; simp), HE.out.trans HBI.out⟩
    ·have hw : x.wired = true := B3.out d x (by omega) (by rw [← HM.out]; exact HXK.out)
     rw [hw] at h5
     have hk0 : ¬ ((k : Int) = 0) := by omega
     have HN1 := zq (turn_next HM.out)
     have HT1 : Hid ((m + k - h) % k = d) := zq (by rw [HM.out]; exact turn_back e2 (by omega))
     have HT2 : Hid (((h + (d + 1)) % k + k - h) % k = d + 1) := zq (turn_back e2 (by omega))
     go_wp2
     go_roundw
     case rel => exact ⟨d + 1, by omega, congrArg (Value.int .i64) HN1.out, HBI.out⟩
     case measure =>
      show d0 - ((((m : Int) + 1) % (k : Int)).toNat + k - h) % k < d0 - ((m : Int).toNat + k - h) % k
      rw [HN1.out, Int.toNat_natCast, Int.toNat_natCast, HT1.out, HT2.out]
      omega


set_option maxHeartbeats 2000000 in
theorem l4Copy_c (t : CacheD) (A : Option Addr) (c : Nat) (w : World) (hx : Rd w A t.lines) (hn : t.lines.length ≤ 1048576) (hc : t.lines.length ≤ c) (hc2 : c ≤ maxLen) :
  Calls Tryz.prog 83 #[.agg #[.slice A t.lines.length c, .int .i64 t.hand]] w fun r w' => ∃ A' c', r = .returned (.agg #[.slice A' t.lines.length c', .int .i64 t.hand]) ∧ Fr 64 w' w.heap.size A' c' t.lines ∧ Ex w w' := by
 have HX := zq hx
 clear hx
 obtain ⟨i0, hi, hz0, hz1, hz2⟩ := info_parts infoLine
 obtain ⟨xs, hand⟩ := t
 simp only at HX hn hc ⊢
 have HX' := HX.out
 by_cases h0 : xs.length = 0
 ·obtain rfl : xs = [] := List.eq_nil_of_length_eq_zero h0
  cases A with
  | none =>
   go_enter Tryz.func83, Tryz.ntmps83
   go_wp2_with fail
   go_region
   go_wp2
   exact bodyPost_ret (v := .agg #[.slice (some ⟨w.heap.size + 1 + 1, 0, none⟩) 0 0, .int .i64 hand]) (by simp [results, Tryz.results83, go_sem]) rfl
    ⟨some ⟨w.heap.size + 1 + 1, 0, none⟩, 0, rfl, ⟨Nat.le_refl _, Nat.zero_le _, .inl rfl⟩, ((((Ex.refl w).alloc _).alloc _).alloc _).drew⟩
  | some ad =>
   go_enter Tryz.func83, Tryz.ntmps83
   go_wp2_with fail
   go_region
   go_wp2
   exact bodyPost_ret (v := .agg #[.slice (some ⟨w.heap.size + 1 + 1, 0, none⟩) 0 0, .int .i64 hand]) (by simp [results, Tryz.results83, go_sem]) rfl
    ⟨some ⟨w.heap.size + 1 + 1, 0, none⟩, 0, rfl, ⟨Nat.le_refl _, Nat.zero_le _, .inl rfl⟩, ((((Ex.refl w).alloc _).alloc _).alloc _).drew⟩
 ·obtain ⟨b, off, e, hb, hcs⟩ := HX.out (by omega)
  subst e
  clear HX' hb hcs
  go_enter Tryz.func83, Tryz.ntmps83
  go_wp2_with fail
  obtain ⟨w0, hw0⟩ : ∃ w0 : World, w0 = ((w.alloc (.cells #[.slice (some ⟨b, off, none⟩) xs.length c, .int .i64 hand] 29)).alloc (.cells #[.slice none 0 0, .int .i64 0] 29)) := ⟨_, rfl⟩
  have E0 : Hid (Ex w w0) := zq (by rw [hw0]; exact ((Ex.refl w).alloc _).alloc _)
  have KC : Hid (Blk w0 w.heap.size 29 [.slice (some ⟨b, off, none⟩) xs.length c, .int .i64 hand]) := zq (by rw [hw0]; exact (Blk.new _ _ _).alloc _)
  have KR : Hid (Blk w0 (w.heap.size + 1) 29 [.slice none 0 0, .int .i64 0]) := zq (by rw [hw0]; exact Blk.new_at _ _ _ (by simp))
  have HX0 : Hid (Rd w0 (some ⟨b, off, none⟩) xs) := zq (HX.out.ex E0.out)
  have hcell : Hid (∀ (w' : World), Ex w0 w' → ∀ j u, (flat xs)[j]? = some u → w'.cell? ((⟨b, off, none⟩ : Addr).add j) = some u) := zq (by
   intro w' hw j u hu
   have hlt := getElem?_lt hu
   rw [flat_length] at hlt
   obtain ⟨b', o', e, hb, hcs⟩ := (HX0.out.ex hw) (by omega)
   injection e with e
   injection e with e1 e2
   subst e1 e2
   have := hcs j u hu
   by_cases hj : j = 0
   ·subst hj; simpa [Addr.add] using this
   ·simpa [Addr.add, hj] using this)
  have H63 : Hid (0 + xs.length ≤ maxLen) := zq (by simp [maxLen]; omega)
  have HBY : Hid ((0 + xs.length) * 48 ≤ 140737488355328) := zq (by omega)
  have HM : Hid (0 < xs.length) := zq (by omega)
  have HO : Hid (∀ w1 : World, (w1.alloc (.cells #[] 64)).ownsRow w1.heap.size 64 6 (.slice (some ⟨w1.heap.size, 0, none⟩) 0 0) 0 []) := zq (fun w1 => ⟨by simp, .inr ⟨w1.heap.size, 0, #[], rfl, Nat.le_refl _, heap_alloc_new w1 _, Nat.le_refl _, by decide, by simp, by simp⟩⟩)
  have HBG : Hid (∀ w2 : World, (w0.drew.alloc (.cells #[] 64)).grownBy w2 (Value.slice (some ⟨w0.drew.heap.size, 0, none⟩) 0 0).ownBlock → Ex w0 w2) := zq (fun w2 hg => (((Ex.refl w0).drew).alloc _).grown hg (by rintro k hk; simp [Value.ownBlock] at hk; omega))
  obtain ⟨gc, hgc⟩ : ∃ gc : Nat, gc = w.heap.size := ⟨_, rfl⟩
  rw [← hw0, ← hgc]
  rw [← hgc] at KC KR
  have HG := zq hgc
  clear hw0 hgc HX
  go_region_held3 (fun w' => (w'.cell? ⟨gc, 0, none⟩ = some (.slice (some ⟨b, off, none⟩) xs.length c) ∧ w'.cell? ⟨gc, 1, none⟩ = some (.int .i64 hand))) (first | exact KC.out.c2 | exact (Blk.drew KC.out).c2 | exact ((Blk.drew KC.out).alloc _).c2 | exact (Blk.ex KC.out hba).c2 | go_keep) (first | (refine step_append_lies _ rfl _ _ 27 rfl w0.heap.size 64 i0 _ 6 48 Tryz.underlying27 hi hz0 hz1 hz2 rfl (by decide) _ 0 [] rfl (HO.out w0.drew) ⟨b, off, none⟩ xs.length c (flat xs) rfl (flat_length xs) (hcell.out _ (((Ex.refl w0).drew).alloc _)) (flat_one xs) HM.out H63.out HBY.out (by simp) _ rfl ?_; intro g cap w2 ho hg hat hlt; have hba := HBG.out _ hg; have hr := Blk.ex KR.out hba; obtain ⟨hr0, hr1⟩ := hr.c2; have hrf := hr.frozen; have hrl := hr.lt; clear hr; have hk := Blk.ex KC.out hba; obtain ⟨hk0, hk1⟩ := hk.c2; have hkl := hk.lt; clear hk))
  rename_i hHeld
  clear hHeld hk0 hk1 hkl hr0 hr1 hrf hrl hat hg hlt
  simp only [Nat.zero_add, List.nil_append] at ho
  obtain ⟨A2, c2, e, hf⟩ := Fr.of_own ho rfl
  cases e
  have HF := zq hf
  have HBA := zq hba
  clear ho hf hba
  have hr := Blk.set (Blk.set (Blk.ex KR.out HBA.out) 0 (.slice (some ⟨g, 0, none⟩) xs.length cap)) 1 (.int .i64 hand)
  obtain ⟨hr0, hr1⟩ := Blk.c2 hr
  have hl := hr.lt
  clear hr
  have HL := zq KR.out.lt
  have HL2 := zq E0.out.size
  have hgl : w.heap.size ≤ gc + 1 := by have := HG.out; omega
  go_wp2
  exact bodyPost_ret (v := .agg #[.slice (some ⟨g, 0, none⟩) xs.length cap, .int .i64 hand]) (by simp [results, Tryz.results83, go_sem, *]) rfl
   ⟨some ⟨g, 0, none⟩, cap, rfl, Fr.mono ((HF.out.set_below HL.out _).set_below HL.out _) HL2.out, ((E0.out.trans HBA.out).set hgl _).set hgl _⟩

set_option maxHeartbeats 2000000 in
theorem l5Copy_c (t : TagsD) (A : Option Addr) (c : Nat) (w : World) (hx : Rd w A t.owns) (hn : t.owns.length ≤ 1048576) (hc : t.owns.length ≤ c) (hc2 : c ≤ maxLen) :
  Calls Tryz.prog 84 #[.agg #[.int .i64 t.count, .int .i64 t.next, .int .i64 t.round, .slice A t.owns.length c]] w fun r w' => ∃ A' c', r = .returned (.agg #[.int .i64 t.count, .int .i64 t.next, .int .i64 t.round, .slice A' t.owns.length c']) ∧ Fr 93 w' w.heap.size A' c' t.owns ∧ Ex w w' := by
 have HX := zq hx
 clear hx
 obtain ⟨i0, hi, hz0, hz1, hz2⟩ := info_parts infoOwn
 obtain ⟨cnt, nxt, rnd, xs⟩ := t
 simp only at HX hn hc ⊢
 go_enter Tryz.func84, Tryz.ntmps84
 go_wp2_with fail
 obtain ⟨w0, hw0⟩ : ∃ w0 : World, w0 = ((w.alloc (.cells #[.int .i64 cnt, .int .i64 nxt, .int .i64 rnd, .slice A xs.length c] 32)).alloc (.cells #[.int .i64 0, .int .i64 0, .int .i64 0, .slice none 0 0] 32)) := ⟨_, rfl⟩
 have E0 : Hid (Ex w w0) := zq (by rw [hw0]; exact ((Ex.refl w).alloc _).alloc _)
 have KC : Hid (Blk w0 w.heap.size 32 [.int .i64 cnt, .int .i64 nxt, .int .i64 rnd, .slice A xs.length c]) := zq (by rw [hw0]; exact (Blk.new _ _ _).alloc _)
 have KR : Hid (Blk w0 (w.heap.size + 1) 32 [.int .i64 0, .int .i64 0, .int .i64 0, .slice none 0 0]) := zq (by rw [hw0]; exact Blk.new_at _ _ _ (by simp))
 have HX0 : Hid (Rd w0 A xs) := zq (HX.out.ex E0.out)
 have H63 : Hid (0 + xs.length ≤ maxLen) := zq (by simp [maxLen]; omega)
 have HBY : Hid ((0 + xs.length) * 16 ≤ 140737488355328) := zq (by omega)
 have HO : Hid (∀ (w1 : World) (a : Option Addr), Fr 93 w1 w0.heap.size a 0 ([] : List OwnD)) := zq (fun w1 a => Fr.none_ _ _ _ _)
 have HBG : Hid (∀ (w2 : World) (a : Option Addr), (w0.alloc (.cells #[] 93)).drew.grownBy w2 (rowOf a 0) → Ex w0 w2) := zq (fun w2 a hg => (((Ex.refl w0).alloc _).drew).grown hg (by rintro k hk; simp [rowOf] at hk))
 have HSZ : Hid (∀ o : Obj, w0.heap.size ≤ (w0.alloc o).drew.heap.size) := zq (fun o => by simp)
 obtain ⟨gc, hgc⟩ : ∃ gc : Nat, gc = w.heap.size := ⟨_, rfl⟩
 rw [← hw0, ← hgc]
 rw [← hgc] at KC KR
 have HG := zq hgc
 clear hw0 hgc HX
 go_region_held3 (fun w' => (w'.cell? ⟨gc, 0, none⟩ = some (.int .i64 cnt) ∧ w'.cell? ⟨gc, 1, none⟩ = some (.int .i64 nxt) ∧ w'.cell? ⟨gc, 2, none⟩ = some (.int .i64 rnd) ∧ w'.cell? ⟨gc, 3, none⟩ = some (.slice A xs.length c))) (first | with_reducible exact KC.out.c4 | with_reducible exact (Blk.drew KC.out).c4 | with_reducible exact (Blk.drew (KC.out.alloc _)).c4 | with_reducible exact (Blk.ex KC.out hba).c4 | with_reducible exact (Blk.drew (Blk.ex KC.out hba)).c4 | go_keep) (first | (refine step_append_fr (α := OwnD) rfl _ _ 30 rfl 93 i0 _ 16 w0.heap.size Tryz.underlying30 hi hz0 hz1 hz2 rfl _ 0 0 [] rfl rfl (HO.out _ _) A c _ xs rfl rfl (Rd.drew (HX0.out.alloc _)) H63.out HBY.out (HSZ.out _) ?_; intro A2 c2 w2 ha; have hba := HBG.out _ _ ha.grown; have hr := Blk.ex KR.out hba; obtain ⟨hr0, hr1, hr2, hr3⟩ := hr.c4; have hrf := hr.frozen; have hrl := hr.lt; clear hr; have hk := Blk.ex KC.out hba; obtain ⟨hk0, hk1, hk2, hk3⟩ := hk.c4; have hkl := hk.lt; clear hk))
 rename_i hHeld
 clear hHeld hk0 hk1 hk2 hk3 hkl hr0 hr1 hr2 hr3 hrf hrl
 simp only [List.nil_append] at ha
 try simp only [Nat.zero_add]
 have HF := zq ha.fr
 have HBA := zq hba
 clear ha hba
 have hr := Blk.set (Blk.set (Blk.set (Blk.set (Blk.ex KR.out HBA.out) 0 (.int .i64 cnt)) 1 (.int .i64 nxt)) 2 (.int .i64 rnd)) 3 (.slice A2 xs.length c2)
 obtain ⟨hr0, hr1, hr2, hr3⟩ := Blk.c4 hr
 have hl := hr.lt
 clear hr
 have HL := zq KR.out.lt
 have HL2 := zq E0.out.size
 have hgl : w.heap.size ≤ gc + 1 := by have := HG.out; omega
 go_wp2
 exact bodyPost_ret (v := .agg #[.int .i64 cnt, .int .i64 nxt, .int .i64 rnd, .slice A2 xs.length c2]) (by simp [results, Tryz.results84, go_sem, *]) rfl
  ⟨A2, c2, rfl, Fr.mono (B := w0.heap.size) (by repeat' (first | exact HF.out | with_reducible refine Fr.set_below ?_ HL.out _)) HL2.out, by repeat' (first | exact E0.out.trans HBA.out | with_reducible refine Ex.set ?_ hgl _)⟩

/-- The capacities are lengths of slices. -/
structure CapX (a : MA) : Prop where
 b : a.bc ≤ maxLen
 f : a.fc ≤ maxLen
 l : a.lc ≤ maxLen
 o : a.oc ≤ maxLen
theorem FrM.capx {w : World} {B : Nat} {m : MachD} {a : MA} (h : FrM w B m a) : CapX a := ⟨h.b.cap, h.f.cap, h.l.cap, h.o.cap⟩

set_option maxHeartbeats 4000000 in
theorem l6Copy_c (m : MachD) (a : MA) (w : World) (hx : HasM w m a) (hf : FewM m) (hc : CapM m a) (hk : CapX a) :
  Calls Tryz.prog 61 #[.agg #[.slice a.b m.table.buckets.length a.bc, .slice a.f m.table.frames.length a.fc, .slice a.l m.cache.lines.length a.lc, .int .i64 m.cache.hand, .int .i64 m.tags.count, .int .i64 m.tags.next, .int .i64 m.tags.round, .slice a.o m.tags.owns.length a.oc, .int .i64 m.space]] w fun r w' => ∃ a', r = .returned (.agg #[.slice a'.b m.table.buckets.length a'.bc, .slice a'.f m.table.frames.length a'.fc, .slice a'.l m.cache.lines.length a'.lc, .int .i64 m.cache.hand, .int .i64 m.tags.count, .int .i64 m.tags.next, .int .i64 m.tags.round, .slice a'.o m.tags.owns.length a'.oc, .int .i64 m.space]) ∧ FrM w' w.heap.size m a' ∧ Ex w w' := by
 obtain ⟨A, c, B, d, L, e, O, g⟩ := a
 have HX := zq hx
 have C1 := zq (fun w' (h : HasM w' m ⟨A, c, B, d, L, e, O, g⟩) => l3Copy_c m.table A c B d w' h.b h.f hf.b hf.f hc.b hc.f hk.b hk.f)
 have C2 := zq (fun w' (h : HasM w' m ⟨A, c, B, d, L, e, O, g⟩) => l4Copy_c m.cache L e w' h.l hf.l hc.l hk.l)
 have C3 := zq (fun w' (h : HasM w' m ⟨A, c, B, d, L, e, O, g⟩) => l5Copy_c m.tags O g w' h.o hf.o hc.o hk.o)
 clear hx hf hc hk
 dsimp only
 generalize en : m.table.frames.length = n at C1 ⊢
 generalize enb : m.table.buckets.length = nb at C1 ⊢
 generalize enl : m.cache.lines.length = nl at C2 ⊢
 generalize eno : m.tags.owns.length = no at C3 ⊢
 have HLE : Hid (m.table.frames.length = n ∧ m.table.buckets.length = nb ∧ m.cache.lines.length = nl ∧ m.tags.owns.length = no) := zq ⟨en, enb, enl, eno⟩
 clear en enb enl eno
 go_enter Tryz.func61, Tryz.ntmps61
 go_wp2_with fail
 obtain ⟨w0, hw0⟩ : ∃ w0 : World, w0 = ((w.alloc (.cells #[.slice A nb c, .slice B n d, .slice L nl e, .int .i64 m.cache.hand, .int .i64 m.tags.count, .int .i64 m.tags.next, .int .i64 m.tags.round, .slice O no g, .int .i64 m.space] 34)).alloc (.cells #[.slice none 0 0, .slice none 0 0, .slice none 0 0, .int .i64 0, .int .i64 0, .int .i64 0, .int .i64 0, .slice none 0 0, .int .i64 0] 34)) := ⟨_, rfl⟩
 have E0 : Hid (Ex w w0) := zq (by rw [hw0]; exact ((Ex.refl w).alloc _).alloc _)
 have KC : Hid (Blk w0 w.heap.size 34 [.slice A nb c, .slice B n d, .slice L nl e, .int .i64 m.cache.hand, .int .i64 m.tags.count, .int .i64 m.tags.next, .int .i64 m.tags.round, .slice O no g, .int .i64 m.space]) := zq (by rw [hw0]; exact (Blk.new _ _ _).alloc _)
 have KR : Hid (Blk w0 (w.heap.size + 1) 34 [.slice none 0 0, .slice none 0 0, .slice none 0 0, .int .i64 0, .int .i64 0, .int .i64 0, .int .i64 0, .slice none 0 0, .int .i64 0]) := zq (by rw [hw0]; exact Blk.new_at _ _ _ (by simp))
 obtain ⟨gc, hgc⟩ : ∃ gc : Nat, gc = w.heap.size := ⟨_, rfl⟩
 rw [← hw0, ← hgc]
 rw [← hgc] at KC KR
 have HG := zq hgc
 have FK : Hid (∀ w', Ex w0 w' → (w'.cell? ⟨gc, 0, none⟩ = some (.slice A nb c) ∧ w'.cell? ⟨gc, 1, none⟩ = some (.slice B n d) ∧ w'.cell? ⟨gc, 2, none⟩ = some (.slice L nl e) ∧ w'.cell? ⟨gc, 3, none⟩ = some (.int .i64 m.cache.hand) ∧ w'.cell? ⟨gc, 4, none⟩ = some (.int .i64 m.tags.count) ∧ w'.cell? ⟨gc, 5, none⟩ = some (.int .i64 m.tags.next) ∧ w'.cell? ⟨gc, 6, none⟩ = some (.int .i64 m.tags.round) ∧ w'.cell? ⟨gc, 7, none⟩ = some (.slice O no g) ∧ w'.cell? ⟨gc, 8, none⟩ = some (.int .i64 m.space))) := zq (fun w' h => (KC.out.ex h).c9)
 clear hw0 hgc
 go_region_held3 (fun w' => (w'.cell? ⟨gc, 0, none⟩ = some (.slice A nb c) ∧ w'.cell? ⟨gc, 1, none⟩ = some (.slice B n d) ∧ w'.cell? ⟨gc, 2, none⟩ = some (.slice L nl e) ∧ w'.cell? ⟨gc, 3, none⟩ = some (.int .i64 m.cache.hand) ∧ w'.cell? ⟨gc, 4, none⟩ = some (.int .i64 m.tags.count) ∧ w'.cell? ⟨gc, 5, none⟩ = some (.int .i64 m.tags.next) ∧ w'.cell? ⟨gc, 6, none⟩ = some (.int .i64 m.tags.round) ∧ w'.cell? ⟨gc, 7, none⟩ = some (.slice O no g) ∧ w'.cell? ⟨gc, 8, none⟩ = some (.int .i64 m.space))) (first | (refine FK.out _ ?_; with_reducible (first | exact Ex.refl _ | exact (Ex.refl _).drew | exact hE1 | exact hE2 | exact hE3)) | go_keep) (first
  | (go_at_call 82; (with_reducible refine (C1.out _ ?_).mono ?_); (exact HX.out.ex (E0.out.drew)); rintro r w1 ⟨A1, c1, B1, d1, rfl, hfa, hfb, hb1⟩; have hE1 := Ex.trans (Ex.refl _).drew hb1)
  | (go_at_call 83; (with_reducible refine (C2.out _ ?_).mono ?_); (exact HX.out.ex (E0.out.trans hE1)); rintro r w2 ⟨A2, c2, rfl, hfc, hb2⟩; have hE2 := Ex.trans hE1 hb2)
  | (go_at_call 84; (with_reducible refine (C3.out _ ?_).mono ?_); (exact HX.out.ex (E0.out.trans hE2)); rintro r w3 ⟨A3, c3, rfl, hfd, hb3⟩; have hE3 := Ex.trans hE2 hb3; have hr := Blk.ex KR.out hE3; obtain ⟨hr0, hr1, hr2, hr3, hr4, hr5, hr6, hr7, hr8⟩ := hr.c9; have hrf := hr.frozen; have hrl := hr.lt; clear hr; obtain ⟨hk0, hk1, hk2, hk3, hk4, hk5, hk6, hk7, hk8⟩ := FK.out _ hE3))
 rename_i hHeld
 clear hHeld hk0 hk1 hk2 hk3 hk4 hk5 hk6 hk7 hk8 hr0 hr1 hr2 hr3 hr4 hr5 hr6 hr7 hr8 hrf hrl
 have s1 : w0.heap.size ≤ w1.heap.size := hb1.size
 have s2 := hb2.size
 have s3 := hb3.size
 have s0 := E0.out.size
 have lR := KR.out.lt
 have HFA := zq (Fr.mono (B' := w.heap.size) (hfa.ex (hb2.trans hb3)) s0)
 have HFB := zq (Fr.mono (B' := w.heap.size) (hfb.ex (hb2.trans hb3)) s0)
 have HFC := zq (Fr.mono (B' := w.heap.size) (hfc.ex hb3) (by omega))
 have HFD := zq (Fr.mono (B' := w.heap.size) hfd (by omega))
 have WFA : Hid (∀ b, rowOf A1 c1 = some b → b ≠ gc + 1) := zq (fun b hb => by have h1 : w0.heap.size ≤ b := (hfa.row b hb).1; omega)
 have WFB : Hid (∀ b, rowOf B1 d1 = some b → b ≠ gc + 1) := zq (fun b hb => by have h1 : w0.heap.size ≤ b := (hfb.row b hb).1; omega)
 have WFC : Hid (∀ b, rowOf A2 c2 = some b → b ≠ gc + 1) := zq (fun b hb => by have h1 := (hfc.row b hb).1; omega)
 have WFD : Hid (∀ b, rowOf A3 c3 = some b → b ≠ gc + 1) := zq (fun b hb => by have h1 := (hfd.row b hb).1; omega)
 have HE3 := zq hE3
 clear hfa hfb hfc hfd hb1 hb2 hb3 hE1 hE2 hE3 s1 s2 s3 s0 lR
 have hr := Blk.set (Blk.set (Blk.set (Blk.set (Blk.set (Blk.set (Blk.set (Blk.set (Blk.set (Blk.ex KR.out HE3.out) 0 (.slice A1 nb c1)) 1 (.slice B1 n d1)) 2 (.slice A2 nl c2)) 3 (.int .i64 m.cache.hand)) 4 (.int .i64 m.tags.count)) 5 (.int .i64 m.tags.next)) 6 (.int .i64 m.tags.round)) 7 (.slice A3 no c3)) 8 (.int .i64 m.space)
 obtain ⟨hr0, hr1, hr2, hr3, hr4, hr5, hr6, hr7, hr8⟩ := Blk.c9 hr
 have hl := hr.lt
 clear hr
 have hgl : w.heap.size ≤ gc + 1 := by have := HG.out; omega
 obtain ⟨e1, e2, e3, e4⟩ := HLE.out
 subst e1 e2 e3 e4
 go_wp2
 exact bodyPost_ret (v := .agg #[.slice A1 m.table.buckets.length c1, .slice B1 m.table.frames.length d1, .slice A2 m.cache.lines.length c2, .int .i64 m.cache.hand, .int .i64 m.tags.count, .int .i64 m.tags.next, .int .i64 m.tags.round, .slice A3 m.tags.owns.length c3, .int .i64 m.space]) (by simp [results, Tryz.results61, go_sem, hr0, hr1, hr2, hr3, hr4, hr5, hr6, hr7, hr8]) rfl
  ⟨⟨A1, c1, B1, d1, A2, c2, A3, c3⟩, rfl, ⟨by repeat' (first | with_reducible exact HFA.out | with_reducible refine Fr.put ?_ WFA.out _), by repeat' (first | with_reducible exact HFB.out | with_reducible refine Fr.put ?_ WFB.out _), by repeat' (first | with_reducible exact HFC.out | with_reducible refine Fr.put ?_ WFC.out _), by repeat' (first | with_reducible exact HFD.out | with_reducible refine Fr.put ?_ WFD.out _)⟩, by repeat' (first | with_reducible exact E0.out.trans HE3.out | with_reducible refine Ex.set ?_ hgl _)⟩


def wireOut (t : CacheD) (k : Nat) (b : Bool) : CacheD := ⟨t.lines.set k { t.lines.getD k noLine with wired := b }, t.hand⟩
def wireLine (t : CacheD) (p : Int) (b : Bool) : CacheD × Bool :=
 if cacheV t = true ∧ inB p t.lines.length = true ∧ (t.lines.getD p.toNat noLine).valid = true ∧ cacheV (wireOut t p.toNat b) = true then (wireOut t p.toNat b, true) else (noCache, false)

end Go.Proofs.YtbdlpbladpppjaaGreatDoor
