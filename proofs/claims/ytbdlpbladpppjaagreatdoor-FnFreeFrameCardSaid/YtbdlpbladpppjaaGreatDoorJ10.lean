/- Joined: Bm, Wx, Ua, Ub, Uc, Ud, Ue. -/
import Derived.Test.YtbdlpbladpppjaaGreatDoorRows
import Derived.Deep.RegionHeld3
import Derived.Deep.DeepCutAuto
import Derived.Test.YtbdlpbladpppjaaGreatDoorJ3
import Derived.Test.YtbdlpbladpppjaaGreatDoorJ1
import Derived.Test.YtbdlpbladpppjaaGreatDoorJ2
import Derived.Test.YtbdlpbladpppjaaGreatDoorJ4
import Derived.Test.YtbdlpbladpppjaaGreatDoorJ5
import Derived.Test.YtbdlpbladpppjaaGreatDoorJ7
import Derived.Test.YtbdlpbladpppjaaGreatDoorJ6
/- MachineSame of both sides. -/
namespace Go.Proofs.YtbdlpbladpppjaaGreatDoor
open Go.ChangeShapes Go.WideShapes Go.ChangeAt Go.RowKit
open Rec (sz cs)
set_option linter.unusedVariables false
set_option maxRecDepth 100000

end Go.Proofs.YtbdlpbladpppjaaGreatDoor

/- Contracts of the small functions over Bool: comparing, copying, counting, marking. Written by a program of mine from one pattern. -/
namespace Go.Proofs.YtbdlpbladpppjaaGreatDoor
open Go.ChangeShapes Go.WideShapes Go.ChangeAt Go.RowKit
open Rec (sz cs)
set_option linter.unusedVariables false
set_option maxRecDepth 100000

theorem infoMBool : (Tryz.prog.info? 4).map (fun i => (i.zero, i.size, i.bytes)) = some (some (.bool false), 1, 1) := by kernel_rfl

end Go.Proofs.YtbdlpbladpppjaaGreatDoor

/- Contracts over whole memories. -/
namespace Go.Proofs.YtbdlpbladpppjaaGreatDoor
open Go.ChangeShapes Go.WideShapes Go.ChangeAt Go.RowKit
open Rec (sz cs)
set_option linter.unusedVariables false
set_option maxRecDepth 100000

/-- A memory's slices read as its lists. -/
structure HasE (w : World) (e : MemD) (a : MA) (K : Option Addr) : Prop where
  m : HasM w e.mach a
  k : Rd w K e.marks
theorem HasE.ex {w w' : World} {m : MemD} {a : MA} {K : Option Addr} (h : HasE w m a K) (k : Ex w w') : HasE w' m a K := ⟨h.m.ex k, h.k.ex k⟩
theorem HasE.drew {w : World} {m : MemD} {a : MA} {K : Option Addr} (h : HasE w m a K) : HasE w.drew m a K := ⟨h.m.drew, h.k⟩
structure FewE (e : MemD) : Prop where
  m : FewM e.mach
  k : e.marks.length ≤ 1048576
structure LenE (e : MemD) : Prop where
  m : LenM e.mach
  k : e.marks.length ≤ maxLen
structure CapE (e : MemD) (a : MA) (kc : Nat) : Prop where
  m : CapM e.mach a
  k : e.marks.length ≤ kc
/-- A memory's slices are the call's own. -/
structure FrE (w : World) (B : Nat) (e : MemD) (a : MA) (K : Option Addr) (kc : Nat) : Prop where
  m : FrM w B e.mach a
  k : Fr 4 w B K kc e.marks
theorem FrE.has {w : World} {B : Nat} {m : MemD} {a : MA} {K : Option Addr} {k : Nat} (h : FrE w B m a K k) : HasE w m a K := ⟨h.m.has, h.k.rd⟩
theorem FrE.cap {w : World} {B : Nat} {m : MemD} {a : MA} {K : Option Addr} {k : Nat} (h : FrE w B m a K k) : CapE m a k := ⟨h.m.cap, h.k.le⟩
theorem FrE.ex {w w' : World} {B : Nat} {m : MemD} {a : MA} {K : Option Addr} {k : Nat} (h : FrE w B m a K k) (e : Ex w w') : FrE w' B m a K k := ⟨h.m.ex e, h.k.ex e⟩

end Go.Proofs.YtbdlpbladpppjaaGreatDoor
namespace Go.Proofs.YtbdlpbladpppjaaGreatDoor
open Go.ChangeShapes Go.WideShapes Go.ChangeAt Go.RowKit
open Rec (sz cs)
set_option linter.unusedVariables false
set_option maxRecDepth 100000

set_option maxHeartbeats 8000000 in
theorem memS_c (x : MemD) (a : MA) (K : Option Addr) (kc : Nat) (w : World) (hx : HasE w x a K) (hf : FewE x) (hc : CapE x a kc) :
    Calls Tryz.prog 14 #[.agg #[.slice a.b x.mach.table.buckets.length a.bc, .slice a.f x.mach.table.frames.length a.fc, .slice a.l x.mach.cache.lines.length a.lc, .int .i64 x.mach.cache.hand, .int .i64 x.mach.tags.count, .int .i64 x.mach.tags.next, .int .i64 x.mach.tags.round, .slice a.o x.mach.tags.owns.length a.oc, .int .i64 x.mach.space, .slice K x.marks.length kc, .int .i64 x.hand]] w fun r w' => r = .returned (.bool (memV x)) ∧ Ex w w' := by
  obtain ⟨A, c, B, d, L, e, O, g⟩ := a
  have HM : Hid (HasM w x.mach ⟨A, c, B, d, L, e, O, g⟩) := zq hx.m
  have HF : Hid (Rd w B x.mach.table.frames) := zq hx.m.f
  have HK : Hid (Rd w K x.marks) := zq hx.k
  skip
  have C1 := zq (fun w' (h : HasM w' x.mach ⟨A, c, B, d, L, e, O, g⟩) => machS_c x.mach ⟨A, c, B, d, L, e, O, g⟩ w' h hf.m hc.m)
  dsimp only at C1 ⊢
  have hfn := hf.m.f
  have hfk := hf.k
  clear hx hf hc
  have HNO : Hid (∀ w', Ex w w' → ¬ MemOk x → (Ending.returned (.bool false) = .returned (.bool (memV x)) ∧ Ex w w')) := zq (fun w' h1 h2 => ⟨ret_bool (memV_no h2).symm, h1⟩)
  cases h1 : machV x.mach
  · rw [h1] at C1
    have HBAD : Hid (¬ MemOk x) := zq (fun h => by have := machV_yes h.1; rw [h1] at this; cases this)
    clear h1
    generalize x.mach.table.frames.length = n at C1 ⊢
    generalize x.mach.table.buckets.length = nb at C1 ⊢
    generalize x.mach.cache.lines.length = nl at C1 ⊢
    generalize x.mach.tags.owns.length = no at C1 ⊢
    generalize x.marks.length = nm
    go_enter Tryz.func14, Tryz.ntmps14
    go_wp2_with fail
    have K0 : Hid (Blk (w.alloc (.cells #[.slice A nb c, .slice B n d, .slice L nl e, .int .i64 x.mach.cache.hand, .int .i64 x.mach.tags.count, .int .i64 x.mach.tags.next, .int .i64 x.mach.tags.round, .slice O no g, .int .i64 x.mach.space, .slice K nm kc, .int .i64 x.hand] 37)) w.heap.size 37 [.slice A nb c, .slice B n d, .slice L nl e, .int .i64 x.mach.cache.hand, .int .i64 x.mach.tags.count, .int .i64 x.mach.tags.next, .int .i64 x.mach.tags.round, .slice O no g, .int .i64 x.mach.space, .slice K nm kc, .int .i64 x.hand]) := zq (Blk.new w _ _)
    have E0 : Hid (Ex w (w.alloc (.cells #[.slice A nb c, .slice B n d, .slice L nl e, .int .i64 x.mach.cache.hand, .int .i64 x.mach.tags.count, .int .i64 x.mach.tags.next, .int .i64 x.mach.tags.round, .slice O no g, .int .i64 x.mach.space, .slice K nm kc, .int .i64 x.hand] 37))) := zq ((Ex.refl w).alloc _)
    refine (C1.out _ (HM.out.ex E0.out)).mono ?_
    rintro r w1 ⟨rfl, he1⟩
    have E1 := zq (E0.out.trans he1)
    have K1 := zq (K0.out.ex he1)
    clear he1 E0 K0
    obtain ⟨q0, q1, q2, q3, q4, q5, q6, q7, q8, q9, q10⟩ := K1.out.c11
    have jM := K1.out.lt
    go_wp2
    go_ret
    exact HNO.out _ E1.out HBAD.out
  rw [h1] at C1
  have HMV : Hid (MachOk x.mach) := zq (machV_iff.1 h1)
  clear h1
  by_cases hl : x.marks.length = x.mach.table.frames.length
  rotate_left
  · have HBAD : Hid (¬ MemOk x) := zq (fun h => hl h.2.1)
    generalize x.mach.table.frames.length = n at C1 hl hfn ⊢
    generalize x.mach.table.buckets.length = nb at C1 ⊢
    generalize x.mach.cache.lines.length = nl at C1 ⊢
    generalize x.mach.tags.owns.length = no at C1 ⊢
    generalize x.marks.length = nm at hl hfk ⊢
    have hbb : ((nm : Int) == (n : Int)) = false := by simp; omega
    have hbn : ((nm : Int) != (n : Int)) = true := by simp; omega
    have hbm : (!((nm : Int) == (n : Int))) = true := by simp; omega
    have hbk : ¬ ((nm : Int) = (n : Int)) := by omega
    go_enter Tryz.func14, Tryz.ntmps14
    go_wp2_with fail
    have K0 : Hid (Blk (w.alloc (.cells #[.slice A nb c, .slice B n d, .slice L nl e, .int .i64 x.mach.cache.hand, .int .i64 x.mach.tags.count, .int .i64 x.mach.tags.next, .int .i64 x.mach.tags.round, .slice O no g, .int .i64 x.mach.space, .slice K nm kc, .int .i64 x.hand] 37)) w.heap.size 37 [.slice A nb c, .slice B n d, .slice L nl e, .int .i64 x.mach.cache.hand, .int .i64 x.mach.tags.count, .int .i64 x.mach.tags.next, .int .i64 x.mach.tags.round, .slice O no g, .int .i64 x.mach.space, .slice K nm kc, .int .i64 x.hand]) := zq (Blk.new w _ _)
    have E0 : Hid (Ex w (w.alloc (.cells #[.slice A nb c, .slice B n d, .slice L nl e, .int .i64 x.mach.cache.hand, .int .i64 x.mach.tags.count, .int .i64 x.mach.tags.next, .int .i64 x.mach.tags.round, .slice O no g, .int .i64 x.mach.space, .slice K nm kc, .int .i64 x.hand] 37))) := zq ((Ex.refl w).alloc _)
    refine (C1.out _ (HM.out.ex E0.out)).mono ?_
    rintro r w1 ⟨rfl, he1⟩
    have E1 := zq (E0.out.trans he1)
    have K1 := zq (K0.out.ex he1)
    clear he1 E0 K0
    obtain ⟨q0, q1, q2, q3, q4, q5, q6, q7, q8, q9, q10⟩ := K1.out.c11
    have jM := K1.out.lt
    go_wp2
    go_ret
    exact HNO.out _ E1.out HBAD.out
  by_cases hh : 0 ≤ x.hand ∧ x.hand < x.marks.length
  rotate_left
  · have HBAD : Hid (¬ MemOk x) := zq (fun h => hh h.2.2.1)
    rw [hl] at hh ⊢
    generalize x.mach.table.frames.length = n at C1 hh ⊢
    generalize x.mach.table.buckets.length = nb at C1 ⊢
    generalize x.mach.cache.lines.length = nl at C1 ⊢
    generalize x.mach.tags.owns.length = no at C1 ⊢
    by_cases h0 : x.hand < 0
    · have h0' : ¬ 0 ≤ x.hand := by omega
      go_enter Tryz.func14, Tryz.ntmps14
      go_wp2_with fail
      have K0 : Hid (Blk (w.alloc (.cells #[.slice A nb c, .slice B n d, .slice L nl e, .int .i64 x.mach.cache.hand, .int .i64 x.mach.tags.count, .int .i64 x.mach.tags.next, .int .i64 x.mach.tags.round, .slice O no g, .int .i64 x.mach.space, .slice K n kc, .int .i64 x.hand] 37)) w.heap.size 37 [.slice A nb c, .slice B n d, .slice L nl e, .int .i64 x.mach.cache.hand, .int .i64 x.mach.tags.count, .int .i64 x.mach.tags.next, .int .i64 x.mach.tags.round, .slice O no g, .int .i64 x.mach.space, .slice K n kc, .int .i64 x.hand]) := zq (Blk.new w _ _)
      have E0 : Hid (Ex w (w.alloc (.cells #[.slice A nb c, .slice B n d, .slice L nl e, .int .i64 x.mach.cache.hand, .int .i64 x.mach.tags.count, .int .i64 x.mach.tags.next, .int .i64 x.mach.tags.round, .slice O no g, .int .i64 x.mach.space, .slice K n kc, .int .i64 x.hand] 37))) := zq ((Ex.refl w).alloc _)
      refine (C1.out _ (HM.out.ex E0.out)).mono ?_
      rintro r w1 ⟨rfl, he1⟩
      have E1 := zq (E0.out.trans he1)
      have K1 := zq (K0.out.ex he1)
      clear he1 E0 K0
      obtain ⟨q0, q1, q2, q3, q4, q5, q6, q7, q8, q9, q10⟩ := K1.out.c11
      have jM := K1.out.lt
      go_wp2
      go_ret
      exact HNO.out _ E1.out HBAD.out
    · have h2 : (n : Int) ≤ x.hand := by omega
      have h0' : 0 ≤ x.hand := by omega
      go_enter Tryz.func14, Tryz.ntmps14
      go_wp2_with fail
      have K0 : Hid (Blk (w.alloc (.cells #[.slice A nb c, .slice B n d, .slice L nl e, .int .i64 x.mach.cache.hand, .int .i64 x.mach.tags.count, .int .i64 x.mach.tags.next, .int .i64 x.mach.tags.round, .slice O no g, .int .i64 x.mach.space, .slice K n kc, .int .i64 x.hand] 37)) w.heap.size 37 [.slice A nb c, .slice B n d, .slice L nl e, .int .i64 x.mach.cache.hand, .int .i64 x.mach.tags.count, .int .i64 x.mach.tags.next, .int .i64 x.mach.tags.round, .slice O no g, .int .i64 x.mach.space, .slice K n kc, .int .i64 x.hand]) := zq (Blk.new w _ _)
      have E0 : Hid (Ex w (w.alloc (.cells #[.slice A nb c, .slice B n d, .slice L nl e, .int .i64 x.mach.cache.hand, .int .i64 x.mach.tags.count, .int .i64 x.mach.tags.next, .int .i64 x.mach.tags.round, .slice O no g, .int .i64 x.mach.space, .slice K n kc, .int .i64 x.hand] 37))) := zq ((Ex.refl w).alloc _)
      refine (C1.out _ (HM.out.ex E0.out)).mono ?_
      rintro r w1 ⟨rfl, he1⟩
      have E1 := zq (E0.out.trans he1)
      have K1 := zq (K0.out.ex he1)
      clear he1 E0 K0
      obtain ⟨q0, q1, q2, q3, q4, q5, q6, q7, q8, q9, q10⟩ := K1.out.c11
      have jM := K1.out.lt
      go_wp2
      go_ret
      exact HNO.out _ E1.out HBAD.out
  have h0 : ¬ x.hand < 0 := by omega
  have HHH := zq hh
  have HLL := zq hl
  obtain ⟨n, en⟩ : ∃ n, n = x.mach.table.frames.length := ⟨_, rfl⟩
  have HN := zq en
  rw [hl] at hh hfk ⊢
  rw [← en] at C1 hh hl hfn hfk ⊢
  have hh2 : ¬ (n : Int) ≤ x.hand := by omega
  generalize x.mach.table.buckets.length = nb at C1 ⊢
  generalize x.mach.cache.lines.length = nl at C1 ⊢
  generalize x.mach.tags.owns.length = no at C1 ⊢
  clear en
  go_enter Tryz.func14, Tryz.ntmps14
  go_wp2_with fail
  have K0 : Hid (Blk (w.alloc (.cells #[.slice A nb c, .slice B n d, .slice L nl e, .int .i64 x.mach.cache.hand, .int .i64 x.mach.tags.count, .int .i64 x.mach.tags.next, .int .i64 x.mach.tags.round, .slice O no g, .int .i64 x.mach.space, .slice K n kc, .int .i64 x.hand] 37)) w.heap.size 37 [.slice A nb c, .slice B n d, .slice L nl e, .int .i64 x.mach.cache.hand, .int .i64 x.mach.tags.count, .int .i64 x.mach.tags.next, .int .i64 x.mach.tags.round, .slice O no g, .int .i64 x.mach.space, .slice K n kc, .int .i64 x.hand]) := zq (Blk.new w _ _)
  have E0 : Hid (Ex w (w.alloc (.cells #[.slice A nb c, .slice B n d, .slice L nl e, .int .i64 x.mach.cache.hand, .int .i64 x.mach.tags.count, .int .i64 x.mach.tags.next, .int .i64 x.mach.tags.round, .slice O no g, .int .i64 x.mach.space, .slice K n kc, .int .i64 x.hand] 37))) := zq ((Ex.refl w).alloc _)
  refine (C1.out _ (HM.out.ex E0.out)).mono ?_
  rintro r w1 ⟨rfl, he1⟩
  have E1 := zq (E0.out.trans he1)
  have K1 := zq (K0.out.ex he1)
  clear he1 E0 K0
  obtain ⟨q0, q1, q2, q3, q4, q5, q6, q7, q8, q9, q10⟩ := K1.out.c11
  have jM := K1.out.lt
  go_wp2
  clear q0 q1 q2 q3 q4 q5 q6 q7 q8 q9 q10 jM C1
  go_loopw [3] (fun i wr => ∃ k : Nat, k ≤ n ∧ i = .int .i64 k ∧ Ex w1 wr ∧ ∀ (j : Nat) (f : FrameD), j < k → x.marks[j]? = some true → x.mach.table.frames[j]? = some f → f.used = true) (fun i _ => n - (intOf i).toNat)
  case atStart => exact ⟨0, Nat.zero_le _, rfl, Ex.refl _, fun j f hj => by omega⟩
  case round =>
    obtain ⟨k, hk, rfl, hq, hall⟩ := hrel
    have HQ := zq (E1.out.trans hq)
    have HQ1 := zq hq
    have HALL := zq hall
    have KQ := zq (K1.out.ex hq)
    clear hq hall
    obtain ⟨q0, q1, q2, q3, q4, q5, q6, q7, q8, q9, q10⟩ := KQ.out.c11
    have jM := KQ.out.lt
    by_cases hlt : k < n
    · obtain ⟨b5, o5, v, rfl, hb5, hvk, hcv⟩ := (HK.out.ex HQ.out).bool (k := k) (by have := HN.out; have := HLL.out; omega)
      obtain ⟨b2, o2, f, rfl, hb2, hfi, k0, k1, k2, k3, k4⟩ := (HF.out.ex HQ.out).frame (k := k) (by have := HN.out; omega)
      have HVK := zq hvk
      have HFI := zq hfi
      have HNEXT : Hid ((v = true → f.used = true) → ∀ (j : Nat) (f : FrameD), j < k + 1 → x.marks[j]? = some true → x.mach.table.frames[j]? = some f → f.used = true) := zq (fun hh j h hj h1 h2 => by
        by_cases e : j = k
        · subst e
          rw [HVK.out] at h1
          rw [HFI.out] at h2
          injection h1 with h1
          injection h2 with h2
          rw [← h2]; exact hh h1
        · exact HALL.out j h (by omega) h1 h2)
      clear hvk hfi
      cases v
      · have HFF := zq (HNEXT.out (fun h => by cases h))
        go_wp2
        go_roundw
        case rel => exact ⟨k + 1, by omega, by go_num, HQ1.out, HFF.out⟩
        case measure => simp [intOf]; omega
      cases hu : f.used
      · rw [hu] at k0
        have HBAD : Hid (¬ MemOk x) := zq (fun h => by have := h.2.2.2 k f HVK.out HFI.out; rw [hu] at this; cases this)
        clear hu
        go_wp2
        go_ret
        exact HNO.out _ HQ.out HBAD.out
      · rw [hu] at k0
        have HFF := zq (HNEXT.out (fun _ => hu))
        clear hu
        go_wp2
        go_roundw
        case rel => exact ⟨k + 1, by omega, by go_num, HQ1.out, HFF.out⟩
        case measure => simp [intOf]; omega
    · obtain rfl : k = n := by omega
      go_wp2
      go_ret
      exact ⟨ret_bool (memV_iff.2 ⟨HMV.out, HLL.out, HHH.out, fun i f h1 h2 => HALL.out i f (by have := getElem?_lt h2; have := HN.out; omega) h1 h2⟩).symm, HQ.out⟩

set_option maxHeartbeats 2000000 in
theorem l7Free_c (t : TableD) (A : Option Addr) (c : Nat) (B : Option Addr) (d : Nat) (w : World) (hy : Rd w B t.frames) (hm : t.frames.length ≤ 1048576) :
    Calls Tryz.prog 13 #[.agg #[.slice A t.buckets.length c, .slice B t.frames.length d]] w fun r w' => r = .returned (.int .i64 (freeF_ t)) ∧ Ex w w' := by
  have B1 := zq (fun k' f => @firstOf_at _ (fun f : FrameD => !f.used) t.frames k' f)
  have B2 := zq (@firstOf_none _ (fun f : FrameD => !f.used) t.frames)
  unfold freeF_
  generalize firstOf (fun f : FrameD => !f.used) t.frames = res at *
  obtain ⟨n, hn1⟩ : ∃ n, n = t.frames.length := ⟨_, rfl⟩
  have HN := zq hn1
  rw [← hn1] at B2 hm ⊢
  generalize t.buckets.length = nb
  have HY := zq hy
  clear hn1 hy
  go_enter Tryz.func13, Tryz.ntmps13
  go_wp2
  obtain ⟨w0, hw0⟩ : ∃ w0 : World, w0 = w.alloc (.cells #[.slice A nb c, .slice B n d] 26) := ⟨_, rfl⟩
  obtain ⟨gb, hgb⟩ : ∃ gb : Nat, gb = w.heap.size := ⟨_, rfl⟩
  have K0 : Hid (Blk w0 gb 26 [.slice A nb c, .slice B n d]) := zq (by rw [hw0, hgb]; exact Blk.new w _ _)
  have E0 : Hid (Ex w w0) := zq (by rw [hw0]; exact (Ex.refl w).alloc _)
  rw [← hw0, ← hgb]
  clear hw0 hgb
  go_loopw [3] (fun i wr => ∃ k : Nat, k ≤ n ∧ i = .int .i64 k ∧ Ex w0 wr ∧ ∀ (j : Nat) (y : FrameD), j < k → t.frames[j]? = some y → (!y.used) = false) (fun i _ => n - (intOf i).toNat)
  case atStart => exact ⟨0, Nat.zero_le _, rfl, Ex.refl _, fun j y h => by omega⟩
  case round =>
    obtain ⟨k, hk, rfl, hbel, hcl⟩ := hrel
    have HB := zq hbel
    have HCL := zq hcl
    clear hbel hcl
    obtain ⟨q0, q1⟩ := (K0.out.ex HB.out).c2
    have lb := (K0.out.ex HB.out).lt
    by_cases hlt : k < n
    · obtain ⟨b1, o1, f, rfl, hb1, hxk, h0, h1, h2, h3, h4⟩ := Rd.frame ((HY.out.ex E0.out).ex HB.out) (k := k) (by have := HN.out; omega)
      have HXK := zq hxk
      clear hxk
      cases hu : f.used
      · rw [hu] at h0
        obtain rfl : res = (k : Int) := B1.out k f HXK.out (by rw [hu]; rfl) HCL.out
        clear hu
        go_wp2
        go_ret
        exact ⟨rfl, E0.out.trans HB.out⟩
      · rw [hu] at h0
        have HU := zq hu
        clear hu
        go_wp2
        go_roundw
        case rel => exact ⟨k + 1, by omega, by go_num, HB.out, fun j z hj hz => by
          by_cases e : j = k
          · subst e
            have := HXK.out
            rw [this] at hz
            injection hz with hz
            rw [← hz, HU.out]; rfl
          · exact HCL.out j z (by omega) hz⟩
        case measure => simp [intOf]; omega
    · obtain rfl : k = n := by omega
      obtain rfl : res = -1 := B2.out HCL.out
      go_wp2
      go_ret
      exact ⟨rfl, E0.out.trans HB.out⟩


/-- That memory comes back, in slices of the call's own. -/
def MemIs (q : MemD) (w : World) (e : Ending) (w' : World) : Prop := ∃ (a : MA) (K : Option Addr) (kc : Nat), e = .returned (.agg #[.slice a.b q.mach.table.buckets.length a.bc, .slice a.f q.mach.table.frames.length a.fc, .slice a.l q.mach.cache.lines.length a.lc, .int .i64 q.mach.cache.hand, .int .i64 q.mach.tags.count, .int .i64 q.mach.tags.next, .int .i64 q.mach.tags.round, .slice a.o q.mach.tags.owns.length a.oc, .int .i64 q.mach.space, .slice K q.marks.length kc, .int .i64 q.hand]) ∧ FrE w' w.heap.size q a K kc ∧ Ex w w'
theorem Blk.put11 {w : World} {g : Nat} {t : TypeId} {a0 a1 a2 a3 a4 a5 a6 a7 a8 a9 a10 b0 b1 b2 b3 b4 b5 b6 b7 b8 b9 b10 : Value} (h : Blk w g t [a0, a1, a2, a3, a4, a5, a6, a7, a8, a9, a10]) :
    Blk (((((((((((w.setCell ⟨g, 0, none⟩ b0).setCell ⟨g, 1, none⟩ b1).setCell ⟨g, 2, none⟩ b2).setCell ⟨g, 3, none⟩ b3).setCell ⟨g, 4, none⟩ b4).setCell ⟨g, 5, none⟩ b5).setCell ⟨g, 6, none⟩ b6).setCell ⟨g, 7, none⟩ b7).setCell ⟨g, 8, none⟩ b8).setCell ⟨g, 9, none⟩ b9).setCell ⟨g, 10, none⟩ b10) g t [b0, b1, b2, b3, b4, b5, b6, b7, b8, b9, b10] :=
  ((((((((((h.set 0 b0).set 1 b1).set 2 b2).set 3 b3).set 4 b4).set 5 b5).set 6 b6).set 7 b7).set 8 b8).set 9 b9).set 10 b10
theorem FrE.mono {w : World} {B B' : Nat} {m : MemD} {a : MA} {K : Option Addr} {k : Nat} (h : FrE w B m a K k) (hB : B' ≤ B) : FrE w B' m a K k := ⟨⟨h.m.b.mono hB, h.m.f.mono hB, h.m.l.mono hB, h.m.o.mono hB⟩, h.k.mono hB⟩

set_option maxHeartbeats 8000000 in
theorem l7Copy_c (x : MemD) (a : MA) (KK : Option Addr) (kc : Nat) (w : World) (hx : HasE w x a KK) (hf : FewE x) (hc : CapE x a kc) (hk : CapX a) (hkk : kc ≤ maxLen) :
    Calls Tryz.prog 37 #[.agg #[.slice a.b x.mach.table.buckets.length a.bc, .slice a.f x.mach.table.frames.length a.fc, .slice a.l x.mach.cache.lines.length a.lc, .int .i64 x.mach.cache.hand, .int .i64 x.mach.tags.count, .int .i64 x.mach.tags.next, .int .i64 x.mach.tags.round, .slice a.o x.mach.tags.owns.length a.oc, .int .i64 x.mach.space, .slice KK x.marks.length kc, .int .i64 x.hand]] w (MemIs x w) := by
  obtain ⟨i0, hi, hz0, hz1, hz2⟩ := info_parts infoMBool
  obtain ⟨A, c, B, d, L, e, O, g⟩ := a
  have HXM : Hid (HasM w x.mach ⟨A, c, B, d, L, e, O, g⟩) := zq hx.m
  have HXK : Hid (Rd w KK x.marks) := zq hx.k
  have C1 := zq (fun w' (h : HasM w' x.mach ⟨A, c, B, d, L, e, O, g⟩) => l6Copy_c x.mach ⟨A, c, B, d, L, e, O, g⟩ w' h hf.m hc.m hk)
  have hkl := hf.k
  have H63 : Hid (0 + x.marks.length ≤ maxLen) := zq (by simp [maxLen]; omega)
  have HBY : Hid ((0 + x.marks.length) * 1 ≤ 140737488355328) := zq (by omega)
  clear hx hf hc hk hkk
  unfold MemIs
  dsimp only at C1 ⊢
  obtain ⟨n, en⟩ : ∃ n, n = x.mach.table.frames.length := ⟨_, rfl⟩
  obtain ⟨nb, enb⟩ : ∃ n, n = x.mach.table.buckets.length := ⟨_, rfl⟩
  obtain ⟨nl, enl⟩ : ∃ n, n = x.mach.cache.lines.length := ⟨_, rfl⟩
  obtain ⟨no, eno⟩ : ∃ n, n = x.mach.tags.owns.length := ⟨_, rfl⟩
  obtain ⟨nm, enm⟩ : ∃ n, n = x.marks.length := ⟨_, rfl⟩
  have HNM := zq enm
  rw [← en, ← enb, ← enl, ← eno] at C1
  rw [← en, ← enb, ← enl, ← eno, ← enm]
  rw [← enm] at H63 HBY
  clear en enb enl eno enm hkl
  go_enter Tryz.func37, Tryz.ntmps37
  go_wp2_with fail
  obtain ⟨w0, hw0⟩ : ∃ w0 : World, w0 = ((w.alloc (.cells #[.slice A nb c, .slice B n d, .slice L nl e, .int .i64 x.mach.cache.hand, .int .i64 x.mach.tags.count, .int .i64 x.mach.tags.next, .int .i64 x.mach.tags.round, .slice O no g, .int .i64 x.mach.space, .slice KK nm kc, .int .i64 x.hand] 37)).alloc (.cells #[.slice none 0 0, .slice none 0 0, .slice none 0 0, .int .i64 0, .int .i64 0, .int .i64 0, .int .i64 0, .slice none 0 0, .int .i64 0, .slice none 0 0, .int .i64 0] 37)) := ⟨_, rfl⟩
  have E0 : Hid (Ex w w0) := zq (by rw [hw0]; exact ((Ex.refl w).alloc _).alloc _)
  have KC : Hid (Blk w0 w.heap.size 37 [.slice A nb c, .slice B n d, .slice L nl e, .int .i64 x.mach.cache.hand, .int .i64 x.mach.tags.count, .int .i64 x.mach.tags.next, .int .i64 x.mach.tags.round, .slice O no g, .int .i64 x.mach.space, .slice KK nm kc, .int .i64 x.hand]) := zq (by rw [hw0]; exact (Blk.new _ _ _).alloc _)
  have KR : Hid (Blk w0 (w.heap.size + 1) 37 [.slice none 0 0, .slice none 0 0, .slice none 0 0, .int .i64 0, .int .i64 0, .int .i64 0, .int .i64 0, .slice none 0 0, .int .i64 0, .slice none 0 0, .int .i64 0]) := zq (by rw [hw0]; exact Blk.new_at _ _ _ (by simp))
  have HXM0 : Hid (∀ w', Ex w0 w' → HasM w' x.mach ⟨A, c, B, d, L, e, O, g⟩) := zq (fun w' h => HXM.out.ex (E0.out.trans h))
  have HXK0 : Hid (∀ w', Ex w0 w' → Rd w' KK x.marks) := zq (fun w' h => HXK.out.ex (E0.out.trans h))
  have HP : Hid (∀ (w1 : World) (a : Option Addr), Fr 4 w1 w0.heap.size a 0 ([] : List Bool)) := zq (fun w1 a => Fr.none_ _ _ _ _)
  have HBG : Hid (∀ (w1 w2 : World) (a : Option Addr), Ex w0 w1 → w1.grownBy w2 (rowOf a 0) → Ex w0 w2) := zq (fun w1 w2 a h hg => h.grown hg (by rintro k hk; simp [rowOf] at hk))
  obtain ⟨gc, hgc⟩ : ∃ gc : Nat, gc = w.heap.size := ⟨_, rfl⟩
  rw [← hw0, ← hgc]
  rw [← hgc] at KC KR
  have HG := zq hgc
  have FK : Hid (∀ w', Ex w0 w' → (w'.cell? ⟨gc, 0, none⟩ = some (.slice A nb c) ∧ w'.cell? ⟨gc, 1, none⟩ = some (.slice B n d) ∧ w'.cell? ⟨gc, 2, none⟩ = some (.slice L nl e) ∧ w'.cell? ⟨gc, 3, none⟩ = some (.int .i64 x.mach.cache.hand) ∧ w'.cell? ⟨gc, 4, none⟩ = some (.int .i64 x.mach.tags.count) ∧ w'.cell? ⟨gc, 5, none⟩ = some (.int .i64 x.mach.tags.next) ∧ w'.cell? ⟨gc, 6, none⟩ = some (.int .i64 x.mach.tags.round) ∧ w'.cell? ⟨gc, 7, none⟩ = some (.slice O no g) ∧ w'.cell? ⟨gc, 8, none⟩ = some (.int .i64 x.mach.space) ∧ w'.cell? ⟨gc, 9, none⟩ = some (.slice KK nm kc) ∧ w'.cell? ⟨gc, 10, none⟩ = some (.int .i64 x.hand))) := zq (fun w' h => (KC.out.ex h).c11)
  have FR : Hid (∀ w', Ex w0 w' → Blk w' (gc + 1) 37 [.slice none 0 0, .slice none 0 0, .slice none 0 0, .int .i64 0, .int .i64 0, .int .i64 0, .int .i64 0, .slice none 0 0, .int .i64 0, .slice none 0 0, .int .i64 0]) := zq (fun w' h => KR.out.ex h)
  have CE : Hid (∀ (args : Array Value) (w : World), (callFunc 61 args).run Tryz.prog w = .ok (.enter 61 args) w) := zq (enters Tryz.func61 (by kernel_rfl) (by kernel_rfl))
  clear hw0 hgc HXM HXK KC
  refine wp_region_held_drew (S := (fun w' => (w'.cell? ⟨gc, 0, none⟩ = some (.slice A nb c) ∧ w'.cell? ⟨gc, 1, none⟩ = some (.slice B n d) ∧ w'.cell? ⟨gc, 2, none⟩ = some (.slice L nl e) ∧ w'.cell? ⟨gc, 3, none⟩ = some (.int .i64 x.mach.cache.hand) ∧ w'.cell? ⟨gc, 4, none⟩ = some (.int .i64 x.mach.tags.count) ∧ w'.cell? ⟨gc, 5, none⟩ = some (.int .i64 x.mach.tags.next) ∧ w'.cell? ⟨gc, 6, none⟩ = some (.int .i64 x.mach.tags.round) ∧ w'.cell? ⟨gc, 7, none⟩ = some (.slice O no g) ∧ w'.cell? ⟨gc, 8, none⟩ = some (.int .i64 x.mach.space) ∧ w'.cell? ⟨gc, 9, none⟩ = some (.slice KK nm kc) ∧ w'.cell? ⟨gc, 10, none⟩ = some (.int .i64 x.hand)))) (by kernel_rfl) ?r0_hS0 (fun hHeld => ?_)
  case r0_hS0 => exact FK.out _ (Ex.refl _).drew
  refine tk 0 ?_; refine tk 1 ?_; refine tk 4 ?_; refine tk 5 ?_; refine tk 7 ?_; refine tk 8 ?_
  refine wpAnyH_ready (rs := [2, 3]) (by kernel_rfl) (by simp) ?_
  refine AllReadyH.cons (o := ?r0_o0) ?r0_ho0 (fun K hK => ?r0_b0) (AllReadyH.cons (o := ?r0_o1) ?r0_ho1 (fun K hK => ?r0_b1) AllReadyH.nil)
  case r0_ho0 => (conv => lhs; whnf; arg 1; whnf)
  case r0_ho1 => (conv => lhs; whnf; arg 1; whnf)
  case r0_b0 =>
    refine step_call_gu rfl CE.out _ _ rfl #[.agg #[.slice A nb c, .slice B n d, .slice L nl e, .int .i64 x.mach.cache.hand, .int .i64 x.mach.tags.count, .int .i64 x.mach.tags.next, .int .i64 x.mach.tags.round, .slice O no g, .int .i64 x.mach.space]] rfl (C1.out _ (HXM0.out _ (by with_reducible repeat' (first | exact Ex.refl _ | exact hba | exact hbb | refine Ex.alloc ?_ _ | refine Ex.drew ?_)))) ?_; rintro r w1 ⟨⟨A1, c1, B1, d1, L1, e1, O1, g1⟩, rfl, hfm, hb1⟩; refine ⟨_, rfl, ?_⟩; have hba : Ex w0 w1 := Ex.trans (by with_reducible repeat' (first | exact Ex.refl _ | exact hba | exact hbb | refine Ex.alloc ?_ _ | refine Ex.drew ?_)) hb1; 
    refine hK.out _ _ ?r0_hS0 (fun hHeld0 => ?_)
    case r0_hS0 => exact FK.out _ hba
    clear hK K hHeld
    try simp only [Act.put, List.setIfInBounds_toArray, List.set_cons_zero, List.set_cons_succ]
    refine wpAnyH_ready (rs := [3]) (by kernel_rfl) (by simp) ?_
    refine AllReadyH.cons (o := ?r0_o2) ?r0_ho2 (fun K hK => ?r0_b2) AllReadyH.nil
    case r0_ho2 => (conv => lhs; whnf; arg 1; whnf)
    case' r0_b2 => skip
    go_simp
    refine hK.out _ _ ?r0_hS2 (fun hHeld2 => ?_)
    case r0_hS2 => exact FK.out _ (by with_reducible repeat' (first | exact Ex.refl _ | exact hba | exact hbb | refine Ex.alloc ?_ _ | refine Ex.drew ?_))
    clear hK K hHeld0
    try simp only [Act.put, List.setIfInBounds_toArray, List.set_cons_zero, List.set_cons_succ]
    refine wpAnyH_ready (rs := [6]) (by kernel_rfl) (by simp) ?_
    refine AllReadyH.cons (o := ?r0_o3) ?r0_ho3 (fun K hK => ?r0_b3) AllReadyH.nil
    case r0_ho3 => (conv => lhs; whnf; arg 1; whnf)
    case' r0_b3 => skip
    refine step_append_fr (α := Bool) rfl _ _ 35 rfl 4 i0 _ 1 w0.heap.size Tryz.underlying35 hi hz0 hz1 hz2 rfl _ 0 0 [] rfl rfl (HP.out _ _) KK kc nm x.marks HNM.out rfl (HXK0.out _ (by with_reducible repeat' (first | exact Ex.refl _ | exact hba | exact hbb | refine Ex.alloc ?_ _ | refine Ex.drew ?_))) H63.out HBY.out (Ex.size (by with_reducible repeat' (first | exact Ex.refl _ | exact hba | exact hbb | refine Ex.alloc ?_ _ | refine Ex.drew ?_))) ?_; intro K4 k4 w4 ha; have hbb : Ex w0 w4 := HBG.out _ _ _ (by with_reducible repeat' (first | exact Ex.refl _ | exact hba | exact hbb | refine Ex.alloc ?_ _ | refine Ex.drew ?_)) ha.grown; 
    refine hK.out _ _ ?r0_hS3 (fun hHeld3 => ?_)
    case r0_hS3 => exact FK.out _ hbb
    clear hK K hHeld2
    try simp only [Act.put, List.setIfInBounds_toArray, List.set_cons_zero, List.set_cons_succ]
    refine tk 9 ?_
    refine wpAnyH_ready (rs := [10]) (by kernel_rfl) (by simp) ?_
    refine AllReadyH.cons (o := ?r0_o4) ?r0_ho4 (fun K hK => ?r0_b4) AllReadyH.nil
    case r0_ho4 => (conv => lhs; whnf; arg 1; whnf)
    case' r0_b4 => skip
    (try clear hr0 hr1 hr2 hr3 hr4 hr5 hr6 hr7 hr8 hr9 hr10 hrf hrl); have hr := FR.out _ hbb; obtain ⟨hr0, hr1, hr2, hr3, hr4, hr5, hr6, hr7, hr8, hr9, hr10⟩ := hr.c11; have hrf := hr.frozen; have hrl := hr.lt; clear hr; go_simp
    refine hK.out _ _ ?r0_hS4 (fun hHeld4 => ?_)
    case r0_hS4 => exact by go_keep
    clear hK K hHeld3
    try simp only [Act.put, List.setIfInBounds_toArray, List.set_cons_zero, List.set_cons_succ]
    refine wpAnyH_done (by kernel_rfl) ?_ _
    clear hHeld4
    simp only [List.nil_append] at ha
    have hec : Ex w1 w4 := Ex.grown (a := w1) (by with_reducible repeat' (first | exact Ex.refl _ | refine Ex.alloc ?_ _ | refine Ex.drew ?_)) ha.grown (by rintro k hk; simp [rowOf] at hk)
    have HFA : Hid (Fr 3 w4 w0.heap.size A1 c1 x.mach.table.buckets) := zq ((hfm.b.ex hec).mono (by simp))
    have HFB : Hid (Fr 45 w4 w0.heap.size B1 d1 x.mach.table.frames) := zq ((hfm.f.ex hec).mono (by simp))
    have HFC : Hid (Fr 64 w4 w0.heap.size L1 e1 x.mach.cache.lines) := zq ((hfm.l.ex hec).mono (by simp))
    have HFD : Hid (Fr 93 w4 w0.heap.size O1 g1 x.mach.tags.owns) := zq ((hfm.o.ex hec).mono (by simp))
    have HFE : Hid (Fr 4 w4 w0.heap.size K4 k4 x.marks) := zq ha.fr
    have HBB := zq hbb
    have HL := zq KR.out.lt
    have HL2 := zq E0.out.size
    have hgl : w.heap.size ≤ gc + 1 := by have := HG.out; omega
    clear ha hfm hec hba hb1 hr0 hr1 hr2 hr3 hr4 hr5 hr6 hr7 hr8 hr9 hr10 hrf hrl
    have hr := Blk.put11 (b0 := .slice A1 nb c1) (b1 := .slice B1 n d1) (b2 := .slice L1 nl e1) (b3 := .int .i64 x.mach.cache.hand) (b4 := .int .i64 x.mach.tags.count) (b5 := .int .i64 x.mach.tags.next) (b6 := .int .i64 x.mach.tags.round) (b7 := .slice O1 no g1) (b8 := .int .i64 x.mach.space) (b9 := .slice K4 nm k4) (b10 := .int .i64 x.hand) (FR.out _ HBB.out)
    obtain ⟨hr0, hr1, hr2, hr3, hr4, hr5, hr6, hr7, hr8, hr9, hr10⟩ := hr.c11
    have hl := hr.lt
    clear hr hbb
    go_wp2
    exact bodyPost_ret (v := .agg #[.slice A1 nb c1, .slice B1 n d1, .slice L1 nl e1, .int .i64 x.mach.cache.hand, .int .i64 x.mach.tags.count, .int .i64 x.mach.tags.next, .int .i64 x.mach.tags.round, .slice O1 no g1, .int .i64 x.mach.space, .slice K4 nm k4, .int .i64 x.hand]) (by simp [results, Tryz.results37, go_sem, *]) rfl
      ⟨⟨A1, c1, B1, d1, L1, e1, O1, g1⟩, K4, k4, rfl, FrE.mono (B := w0.heap.size) ⟨⟨by repeat' (first | with_reducible exact HFA.out | with_reducible refine Fr.set_below ?_ HL.out _), by repeat' (first | with_reducible exact HFB.out | with_reducible refine Fr.set_below ?_ HL.out _), by repeat' (first | with_reducible exact HFC.out | with_reducible refine Fr.set_below ?_ HL.out _), by repeat' (first | with_reducible exact HFD.out | with_reducible refine Fr.set_below ?_ HL.out _)⟩, by repeat' (first | with_reducible exact HFE.out | with_reducible refine Fr.set_below ?_ HL.out _)⟩ HL2.out, by repeat' (first | with_reducible exact E0.out.trans HBB.out | with_reducible refine Ex.set ?_ hgl _)⟩
  case r0_b1 =>
    go_simp
    refine hK.out _ _ ?r0_hS1 (fun hHeld1 => ?_)
    case r0_hS1 => exact FK.out _ (by with_reducible repeat' (first | exact Ex.refl _ | exact hba | exact hbb | refine Ex.alloc ?_ _ | refine Ex.drew ?_))
    clear hK K hHeld
    try simp only [Act.put, List.setIfInBounds_toArray, List.set_cons_zero, List.set_cons_succ]
    refine wpAnyH_ready (rs := [2]) (by kernel_rfl) (by simp) ?_
    refine AllReadyH.cons (o := ?r0_o5) ?r0_ho5 (fun K hK => ?r0_b5) AllReadyH.nil
    case r0_ho5 => (conv => lhs; whnf; arg 1; whnf)
    case' r0_b5 => skip
    refine step_call_gu rfl CE.out _ _ rfl #[.agg #[.slice A nb c, .slice B n d, .slice L nl e, .int .i64 x.mach.cache.hand, .int .i64 x.mach.tags.count, .int .i64 x.mach.tags.next, .int .i64 x.mach.tags.round, .slice O no g, .int .i64 x.mach.space]] rfl (C1.out _ (HXM0.out _ (by with_reducible repeat' (first | exact Ex.refl _ | exact hba | exact hbb | refine Ex.alloc ?_ _ | refine Ex.drew ?_)))) ?_; rintro r w1 ⟨⟨A1, c1, B1, d1, L1, e1, O1, g1⟩, rfl, hfm, hb1⟩; refine ⟨_, rfl, ?_⟩; have hba : Ex w0 w1 := Ex.trans (by with_reducible repeat' (first | exact Ex.refl _ | exact hba | exact hbb | refine Ex.alloc ?_ _ | refine Ex.drew ?_)) hb1; 
    refine hK.out _ _ ?r0_hS5 (fun hHeld5 => ?_)
    case r0_hS5 => exact FK.out _ hba
    clear hK K hHeld1
    try simp only [Act.put, List.setIfInBounds_toArray, List.set_cons_zero, List.set_cons_succ]
    refine wpAnyH_ready (rs := [6]) (by kernel_rfl) (by simp) ?_
    refine AllReadyH.cons (o := ?r0_o6) ?r0_ho6 (fun K hK => ?r0_b6) AllReadyH.nil
    case r0_ho6 => (conv => lhs; whnf; arg 1; whnf)
    case' r0_b6 => skip
    refine step_append_fr (α := Bool) rfl _ _ 35 rfl 4 i0 _ 1 w0.heap.size Tryz.underlying35 hi hz0 hz1 hz2 rfl _ 0 0 [] rfl rfl (HP.out _ _) KK kc nm x.marks HNM.out rfl (HXK0.out _ (by with_reducible repeat' (first | exact Ex.refl _ | exact hba | exact hbb | refine Ex.alloc ?_ _ | refine Ex.drew ?_))) H63.out HBY.out (Ex.size (by with_reducible repeat' (first | exact Ex.refl _ | exact hba | exact hbb | refine Ex.alloc ?_ _ | refine Ex.drew ?_))) ?_; intro K4 k4 w4 ha; have hbb : Ex w0 w4 := HBG.out _ _ _ (by with_reducible repeat' (first | exact Ex.refl _ | exact hba | exact hbb | refine Ex.alloc ?_ _ | refine Ex.drew ?_)) ha.grown; 
    refine hK.out _ _ ?r0_hS6 (fun hHeld6 => ?_)
    case r0_hS6 => exact FK.out _ hbb
    clear hK K hHeld5
    try simp only [Act.put, List.setIfInBounds_toArray, List.set_cons_zero, List.set_cons_succ]
    refine tk 9 ?_
    refine wpAnyH_ready (rs := [10]) (by kernel_rfl) (by simp) ?_
    refine AllReadyH.cons (o := ?r0_o7) ?r0_ho7 (fun K hK => ?r0_b7) AllReadyH.nil
    case r0_ho7 => (conv => lhs; whnf; arg 1; whnf)
    case' r0_b7 => skip
    (try clear hr0 hr1 hr2 hr3 hr4 hr5 hr6 hr7 hr8 hr9 hr10 hrf hrl); have hr := FR.out _ hbb; obtain ⟨hr0, hr1, hr2, hr3, hr4, hr5, hr6, hr7, hr8, hr9, hr10⟩ := hr.c11; have hrf := hr.frozen; have hrl := hr.lt; clear hr; go_simp
    refine hK.out _ _ ?r0_hS7 (fun hHeld7 => ?_)
    case r0_hS7 => exact by go_keep
    clear hK K hHeld6
    try simp only [Act.put, List.setIfInBounds_toArray, List.set_cons_zero, List.set_cons_succ]
    refine wpAnyH_done (by kernel_rfl) ?_ _
    clear hHeld7
    simp only [List.nil_append] at ha
    have hec : Ex w1 w4 := Ex.grown (a := w1) (by with_reducible repeat' (first | exact Ex.refl _ | refine Ex.alloc ?_ _ | refine Ex.drew ?_)) ha.grown (by rintro k hk; simp [rowOf] at hk)
    have HFA : Hid (Fr 3 w4 w0.heap.size A1 c1 x.mach.table.buckets) := zq ((hfm.b.ex hec).mono (by simp))
    have HFB : Hid (Fr 45 w4 w0.heap.size B1 d1 x.mach.table.frames) := zq ((hfm.f.ex hec).mono (by simp))
    have HFC : Hid (Fr 64 w4 w0.heap.size L1 e1 x.mach.cache.lines) := zq ((hfm.l.ex hec).mono (by simp))
    have HFD : Hid (Fr 93 w4 w0.heap.size O1 g1 x.mach.tags.owns) := zq ((hfm.o.ex hec).mono (by simp))
    have HFE : Hid (Fr 4 w4 w0.heap.size K4 k4 x.marks) := zq ha.fr
    have HBB := zq hbb
    have HL := zq KR.out.lt
    have HL2 := zq E0.out.size
    have hgl : w.heap.size ≤ gc + 1 := by have := HG.out; omega
    clear ha hfm hec hba hb1 hr0 hr1 hr2 hr3 hr4 hr5 hr6 hr7 hr8 hr9 hr10 hrf hrl
    have hr := Blk.put11 (b0 := .slice A1 nb c1) (b1 := .slice B1 n d1) (b2 := .slice L1 nl e1) (b3 := .int .i64 x.mach.cache.hand) (b4 := .int .i64 x.mach.tags.count) (b5 := .int .i64 x.mach.tags.next) (b6 := .int .i64 x.mach.tags.round) (b7 := .slice O1 no g1) (b8 := .int .i64 x.mach.space) (b9 := .slice K4 nm k4) (b10 := .int .i64 x.hand) (FR.out _ HBB.out)
    obtain ⟨hr0, hr1, hr2, hr3, hr4, hr5, hr6, hr7, hr8, hr9, hr10⟩ := hr.c11
    have hl := hr.lt
    clear hr hbb
    go_wp2
    exact bodyPost_ret (v := .agg #[.slice A1 nb c1, .slice B1 n d1, .slice L1 nl e1, .int .i64 x.mach.cache.hand, .int .i64 x.mach.tags.count, .int .i64 x.mach.tags.next, .int .i64 x.mach.tags.round, .slice O1 no g1, .int .i64 x.mach.space, .slice K4 nm k4, .int .i64 x.hand]) (by simp [results, Tryz.results37, go_sem, *]) rfl
      ⟨⟨A1, c1, B1, d1, L1, e1, O1, g1⟩, K4, k4, rfl, FrE.mono (B := w0.heap.size) ⟨⟨by repeat' (first | with_reducible exact HFA.out | with_reducible refine Fr.set_below ?_ HL.out _), by repeat' (first | with_reducible exact HFB.out | with_reducible refine Fr.set_below ?_ HL.out _), by repeat' (first | with_reducible exact HFC.out | with_reducible refine Fr.set_below ?_ HL.out _), by repeat' (first | with_reducible exact HFD.out | with_reducible refine Fr.set_below ?_ HL.out _)⟩, by repeat' (first | with_reducible exact HFE.out | with_reducible refine Fr.set_below ?_ HL.out _)⟩ HL2.out, by repeat' (first | with_reducible exact E0.out.trans HBB.out | with_reducible refine Ex.set ?_ hgl _)⟩

def newMem (m : MachD) : MemD := ⟨m, List.replicate m.table.frames.length false, 0⟩
def clearMem (m : MemD) : MemD := ⟨m.mach, List.replicate m.marks.length false, m.hand⟩
/-- That memory comes back, and the word that it could be made. -/
def MemYes (q : MemD) (w : World) (e : Ending) (w' : World) : Prop := ∃ (a : MA) (K : Option Addr) (kc : Nat), e = .returned (.tuple #[.agg #[.slice a.b q.mach.table.buckets.length a.bc, .slice a.f q.mach.table.frames.length a.fc, .slice a.l q.mach.cache.lines.length a.lc, .int .i64 q.mach.cache.hand, .int .i64 q.mach.tags.count, .int .i64 q.mach.tags.next, .int .i64 q.mach.tags.round, .slice a.o q.mach.tags.owns.length a.oc, .int .i64 q.mach.space, .slice K q.marks.length kc, .int .i64 q.hand], .bool true]) ∧ FrE w' w.heap.size q a K kc ∧ Ex w w'
theorem MemOk.fewE {m : MemD} (h : MemOk m) : FewE m := ⟨h.1.fewM, by have := h.1.few; rw [h.2.1]; omega⟩
theorem MemOk.lens {m : MemD} (h : MemOk m) : m.marks.length ≤ 16 ∧ 1 ≤ m.marks.length := by have := h.1.few; rw [h.2.1]; omega
theorem MemOk.clear {m : MemD} (h : MemOk m) : MemOk (clearMem m) := by
  have hl : LessMarks (List.replicate m.marks.length false) m.marks := ⟨by simp, fun i hi => by
    simp only [List.getElem?_replicate] at hi
    split at hi
    · injection hi with hi; cases hi
    · cases hi⟩
  exact h.less hl (by have := h.2.2.1; simp; omega)
theorem Bk.replicate (w : World) (n : Nat) {g : Nat} (hg : g = w.heap.size) : Bk 4 (w.alloc (.cells (flat (List.replicate n false)).toArray 4)) g (List.replicate n false) [] := by
  subst hg
  exact Bk.new w 4 (List.replicate n false)
theorem Fr.made {w : World} {g n B : Nat} (h : Bk 4 w g (List.replicate n false) []) (hB : B ≤ g) (hn : n ≤ maxLen) : Fr 4 w B (some ⟨g, 0, none⟩) n (List.replicate n false) :=
  Fr.close h hB (by simp) (by simp) hn

set_option maxHeartbeats 8000000 in
theorem newMemS_c (m : MachD) (a : MA) (w : World) (h : MachOk m) (hx : HasM w m a) (hc : CapM m a) (hk : CapX a) :
    Calls Tryz.prog 31 #[.agg #[.slice a.b m.table.buckets.length a.bc, .slice a.f m.table.frames.length a.fc, .slice a.l m.cache.lines.length a.lc, .int .i64 m.cache.hand, .int .i64 m.tags.count, .int .i64 m.tags.next, .int .i64 m.tags.round, .slice a.o m.tags.owns.length a.oc, .int .i64 m.space]] w (MemYes (newMem m) w) := by
  have hf := h.fewM
  obtain ⟨A, c, B, d, L, e, O, g⟩ := a
  have HXM : Hid (HasM w m ⟨A, c, B, d, L, e, O, g⟩) := zq hx
  have CV := zq (fun w' (e1 : Ex w w') => machS_c m ⟨A, c, B, d, L, e, O, g⟩ w' (hx.ex e1) hf hc)
  rw [machV_yes h] at CV
  have C1 := zq (fun w' (e1 : Ex w w') => l6Copy_c m ⟨A, c, B, d, L, e, O, g⟩ w' (hx.ex e1) hf hc hk)
  have hkl := hf.f
  have hmk := fun n (hn : n ≤ 1048576) => make_rec (P := Tryz.prog) (α := Bool) 35 4 1 false _ Tryz.underlying35 infoMBool rfl n (by omega) (by omega)
  have hmk := hmk _ hkl
  have hnm : m.table.frames.length ≤ maxLen := by simp [maxLen]; omega
  clear hx hf hc hk h
  unfold MemYes newMem
  dsimp only at C1 CV ⊢
  simp only [List.length_replicate]
  obtain ⟨n, en⟩ : ∃ n, n = m.table.frames.length := ⟨_, rfl⟩
  obtain ⟨nb, enb⟩ : ∃ n, n = m.table.buckets.length := ⟨_, rfl⟩
  obtain ⟨nl, enl⟩ : ∃ n, n = m.cache.lines.length := ⟨_, rfl⟩
  obtain ⟨no, eno⟩ : ∃ n, n = m.tags.owns.length := ⟨_, rfl⟩
  rw [← en, ← enb, ← enl, ← eno] at C1 CV
  rw [← en] at hmk hkl hnm
  rw [← en, ← enb, ← enl, ← eno]
  clear en enb enl eno
  have HMK := zq hmk
  go_enter Tryz.func31, Tryz.ntmps31
  go_wp2_with fail
  refine name_calls ?_; intro v1 hv1
  have X1 : Hid (Chg (0) (0) w v1) := zx hv1
  have t1 := X1.out.size
  have Ev1 := zq ((Ex.refl w).chg X1.out (by omega))
  have KX : Hid (Blk v1 (w.heap.size) 34 [.slice A nb c, .slice B n d, .slice L nl e, .int .i64 m.cache.hand, .int .i64 m.tags.count, .int .i64 m.tags.next, .int .i64 m.tags.round, .slice O no g, .int .i64 m.space]) := zk hv1
  have lX : w.heap.size < v1.heap.size := KX.out.lt
  have KR : Hid (Blk v1 (w.heap.size + 1) 37 [.slice none 0 0, .slice none 0 0, .slice none 0 0, .int .i64 0, .int .i64 0, .int .i64 0, .int .i64 0, .slice none 0 0, .int .i64 0, .slice none 0 0, .int .i64 0]) := zk hv1
  have lR : w.heap.size + 1 < v1.heap.size := KR.out.lt
  clear hv1
  refine (CV.out _ Ev1.out).mono ?_; rintro r w1 ⟨rfl, hb1⟩
  have Y1 := zq (Chg.of_ex hb1)
  have s1 := Y1.out.size
  have Ew1 := zq (Ev1.out.chg Y1.out (by omega))
  clear hb1
  replace KX := zq (KX.out.chg Y1.out (by omega))
  replace KR := zq (KR.out.chg Y1.out (by omega))
  obtain ⟨qX0, qX1, qX2, qX3, qX4, qX5, qX6, qX7, qX8⟩ := KX.out.c9
  have jX := KX.out.lt
  obtain ⟨qR0, qR1, qR2, qR3, qR4, qR5, qR6, qR7, qR8, qR9, qR10⟩ := KR.out.c11
  have jR := KR.out.lt
  have E1 := zq Ew1.out
  have FK : Hid (∀ w', Ex w1 w' → (w'.cell? ⟨w.heap.size, 0, none⟩ = some (.slice A nb c) ∧ w'.cell? ⟨w.heap.size, 1, none⟩ = some (.slice B n d) ∧ w'.cell? ⟨w.heap.size, 2, none⟩ = some (.slice L nl e) ∧ w'.cell? ⟨w.heap.size, 3, none⟩ = some (.int .i64 m.cache.hand) ∧ w'.cell? ⟨w.heap.size, 4, none⟩ = some (.int .i64 m.tags.count) ∧ w'.cell? ⟨w.heap.size, 5, none⟩ = some (.int .i64 m.tags.next) ∧ w'.cell? ⟨w.heap.size, 6, none⟩ = some (.int .i64 m.tags.round) ∧ w'.cell? ⟨w.heap.size, 7, none⟩ = some (.slice O no g) ∧ w'.cell? ⟨w.heap.size, 8, none⟩ = some (.int .i64 m.space))) := zq (fun w' h => (KX.out.ex h).c9)
  have FR : Hid (∀ w', Ex w1 w' → Blk w' (w.heap.size + 1) 37 [.slice none 0 0, .slice none 0 0, .slice none 0 0, .int .i64 0, .int .i64 0, .int .i64 0, .int .i64 0, .slice none 0 0, .int .i64 0, .slice none 0 0, .int .i64 0]) := zq (fun w' h => KR.out.ex h)
  have hw1 := Ew1.out.size
  have hwr : w.heap.size + 1 < w1.heap.size := KR.out.lt
  have hgl : w.heap.size ≤ w.heap.size + 1 := Nat.le_succ _
  have CE : Hid (∀ (args : Array Value) (w : World), (callFunc 61 args).run Tryz.prog w = .ok (.enter 61 args) w) := zq (enters Tryz.func61 (by kernel_rfl) (by kernel_rfl))
  clear qX0 qX1 qX2 qX3 qX4 qX5 qX6 qX7 qX8 jX
  clear KX
  clear qR0 qR1 qR2 qR3 qR4 qR5 qR6 qR7 qR8 qR9 qR10 jR
  clear KR
  go_wp2_with fail
  refine wp_region_held_drew (S := (fun w' => (w'.cell? ⟨w.heap.size, 0, none⟩ = some (.slice A nb c) ∧ w'.cell? ⟨w.heap.size, 1, none⟩ = some (.slice B n d) ∧ w'.cell? ⟨w.heap.size, 2, none⟩ = some (.slice L nl e) ∧ w'.cell? ⟨w.heap.size, 3, none⟩ = some (.int .i64 m.cache.hand) ∧ w'.cell? ⟨w.heap.size, 4, none⟩ = some (.int .i64 m.tags.count) ∧ w'.cell? ⟨w.heap.size, 5, none⟩ = some (.int .i64 m.tags.next) ∧ w'.cell? ⟨w.heap.size, 6, none⟩ = some (.int .i64 m.tags.round) ∧ w'.cell? ⟨w.heap.size, 7, none⟩ = some (.slice O no g) ∧ w'.cell? ⟨w.heap.size, 8, none⟩ = some (.int .i64 m.space)))) (by kernel_rfl) ?r1_hS0 (fun hHeld => ?_)
  case r1_hS0 => exact FK.out _ (Ex.refl _).drew
  refine tk 0 ?_; refine tk 2 ?_; refine tk 3 ?_; refine tk 4 ?_; refine tk 5 ?_
  refine wpAnyH_ready (rs := [1, 6]) (by kernel_rfl) (by simp) ?_
  refine AllReadyH.cons (o := ?r1_o0) ?r1_ho0 (fun K hK => ?r1_b0) (AllReadyH.cons (o := ?r1_o1) ?r1_ho1 (fun K hK => ?r1_b1) AllReadyH.nil)
  case r1_ho0 => (conv => lhs; whnf; arg 1; whnf)
  case r1_ho1 => (conv => lhs; whnf; arg 1; whnf)
  case r1_b0 =>
    refine step_call_gu rfl CE.out _ _ rfl #[.agg #[.slice A nb c, .slice B n d, .slice L nl e, .int .i64 m.cache.hand, .int .i64 m.tags.count, .int .i64 m.tags.next, .int .i64 m.tags.round, .slice O no g, .int .i64 m.space]] rfl (C1.out _ (E1.out.trans (by with_reducible repeat' (first | exact Ex.refl _ | exact hba | refine Ex.alloc ?_ _ | refine Ex.drew ?_)))) ?_; rintro r w2 ⟨⟨A1, c1, B1, d1, L1, e1, O1, g1⟩, rfl, hfm, hb1⟩; refine ⟨_, rfl, ?_⟩; have hba : Ex w1 w2 := Ex.trans (by with_reducible repeat' (first | exact Ex.refl _ | exact hba | refine Ex.alloc ?_ _ | refine Ex.drew ?_)) hb1
    refine hK.out _ _ ?r1_hS0 (fun hHeld0 => ?_)
    case r1_hS0 => exact FK.out _ hba
    clear hK K hHeld
    try simp only [Act.put, List.setIfInBounds_toArray, List.set_cons_zero, List.set_cons_succ]
    refine wpAnyH_ready (rs := [6]) (by kernel_rfl) (by simp) ?_
    refine AllReadyH.cons (o := ?r1_o2) ?r1_ho2 (fun K hK => ?r1_b2) AllReadyH.nil
    case r1_ho2 => (conv => lhs; whnf; arg 1; whnf)
    case' r1_b2 => skip
    go_simp
    refine hK.out _ _ ?r1_hS2 (fun hHeld2 => ?_)
    case r1_hS2 => exact FK.out _ (by with_reducible repeat' (first | exact Ex.refl _ | exact hba | refine Ex.alloc ?_ _ | refine Ex.drew ?_))
    clear hK K hHeld0
    try simp only [Act.put, List.setIfInBounds_toArray, List.set_cons_zero, List.set_cons_succ]
    refine tk 7 ?_
    refine wpAnyH_ready (rs := [8]) (by kernel_rfl) (by simp) ?_
    refine AllReadyH.cons (o := ?r1_o3) ?r1_ho3 (fun K hK => ?r1_b3) AllReadyH.nil
    case r1_ho3 => (conv => lhs; whnf; arg 1; whnf)
    case' r1_b3 => skip
    have hr := FR.out _ (Ex.alloc hba (.cells (flat (List.replicate n false)).toArray 4)); obtain ⟨hr0, hr1, hr2, hr3, hr4, hr5, hr6, hr7, hr8, hr9, hr10⟩ := hr.c11; have hrf := hr.frozen; have hrl := hr.lt; clear hr; go_simp
    refine hK.out _ _ ?r1_hS3 (fun hHeld3 => ?_)
    case r1_hS3 => exact by go_keep
    clear hK K hHeld2
    try simp only [Act.put, List.setIfInBounds_toArray, List.set_cons_zero, List.set_cons_succ]
    refine tk 9 ?_
    refine wpAnyH_done (by kernel_rfl) ?_ _
    clear hHeld3 hmk
    obtain ⟨wz, hwz⟩ : ∃ wz : World, wz = (w2.alloc (.cells (flat (List.replicate n false)).toArray 4)) := ⟨_, rfl⟩
    have hec : Ex w2 wz := by rw [hwz]; exact (Ex.refl _).alloc _
    obtain ⟨gK, hgK⟩ : ∃ g : Nat, g = w2.heap.size := ⟨_, rfl⟩
    have HKB : Hid (Bk 4 wz gK (List.replicate n false) []) := zq (by rw [hwz, hgK]; exact Bk.replicate _ _ rfl)
    have hgw : w1.heap.size ≤ gK := by have := hba.size; omega
    rw [← hwz, ← hgK]
    have HFA : Hid (Fr 3 wz w1.heap.size A1 c1 m.table.buckets) := zq ((hfm.b.ex hec).mono (by simp))
    have HFB : Hid (Fr 45 wz w1.heap.size B1 d1 m.table.frames) := zq ((hfm.f.ex hec).mono (by simp))
    have HFC : Hid (Fr 64 wz w1.heap.size L1 e1 m.cache.lines) := zq ((hfm.l.ex hec).mono (by simp))
    have HFD : Hid (Fr 93 wz w1.heap.size O1 g1 m.tags.owns) := zq ((hfm.o.ex hec).mono (by simp))
    have HFE : Hid (Fr 4 wz w1.heap.size (some ⟨gK, 0, none⟩) n (List.replicate n false)) := zq (Fr.made HKB.out hgw hnm)
    have HBB := zq (hba.trans hec)
    clear hfm hb1 hr0 hr1 hr2 hr3 hr4 hr5 hr6 hr7 hr8 hr9 hr10 hrf hrl
    clear hwz
    have hr := Blk.put11 (b0 := .slice A1 nb c1) (b1 := .slice B1 n d1) (b2 := .slice L1 nl e1) (b3 := .int .i64 m.cache.hand) (b4 := .int .i64 m.tags.count) (b5 := .int .i64 m.tags.next) (b6 := .int .i64 m.tags.round) (b7 := .slice O1 no g1) (b8 := .int .i64 m.space) (b9 := .slice (some ⟨gK, 0, none⟩) n n) (b10 := .int .i64 0) (FR.out _ HBB.out)
    obtain ⟨hr0, hr1, hr2, hr3, hr4, hr5, hr6, hr7, hr8, hr9, hr10⟩ := hr.c11
    have hl := hr.lt
    clear hr hba hec hgK
    go_wp2
    exact bodyPost_ret (v := .tuple #[.agg #[.slice A1 nb c1, .slice B1 n d1, .slice L1 nl e1, .int .i64 m.cache.hand, .int .i64 m.tags.count, .int .i64 m.tags.next, .int .i64 m.tags.round, .slice O1 no g1, .int .i64 m.space, .slice (some ⟨gK, 0, none⟩) n n, .int .i64 0], .bool true]) (by simp [results, Tryz.results31, go_sem, *]) rfl
      ⟨⟨A1, c1, B1, d1, L1, e1, O1, g1⟩, some ⟨gK, 0, none⟩, n, rfl, FrE.mono (B := w1.heap.size) ⟨⟨by repeat' (first | with_reducible exact HFA.out | with_reducible refine Fr.set_below ?_ hwr _), by repeat' (first | with_reducible exact HFB.out | with_reducible refine Fr.set_below ?_ hwr _), by repeat' (first | with_reducible exact HFC.out | with_reducible refine Fr.set_below ?_ hwr _), by repeat' (first | with_reducible exact HFD.out | with_reducible refine Fr.set_below ?_ hwr _)⟩, by repeat' (first | with_reducible exact HFE.out | with_reducible refine Fr.set_below ?_ hwr _)⟩ hw1, by repeat' (first | with_reducible exact E1.out.trans HBB.out | with_reducible refine Ex.set ?_ hgl _)⟩
  case r1_b1 =>
    go_simp
    refine hK.out _ _ ?r1_hS1 (fun hHeld1 => ?_)
    case r1_hS1 => exact FK.out _ (by with_reducible repeat' (first | exact Ex.refl _ | exact hba | refine Ex.alloc ?_ _ | refine Ex.drew ?_))
    clear hK K hHeld
    try simp only [Act.put, List.setIfInBounds_toArray, List.set_cons_zero, List.set_cons_succ]
    refine wpAnyH_ready (rs := [1]) (by kernel_rfl) (by simp) ?_
    refine AllReadyH.cons (o := ?r1_o4) ?r1_ho4 (fun K hK => ?r1_b4) AllReadyH.nil
    case r1_ho4 => (conv => lhs; whnf; arg 1; whnf)
    case' r1_b4 => skip
    refine step_call_gu rfl CE.out _ _ rfl #[.agg #[.slice A nb c, .slice B n d, .slice L nl e, .int .i64 m.cache.hand, .int .i64 m.tags.count, .int .i64 m.tags.next, .int .i64 m.tags.round, .slice O no g, .int .i64 m.space]] rfl (C1.out _ (E1.out.trans (by with_reducible repeat' (first | exact Ex.refl _ | exact hba | refine Ex.alloc ?_ _ | refine Ex.drew ?_)))) ?_; rintro r w2 ⟨⟨A1, c1, B1, d1, L1, e1, O1, g1⟩, rfl, hfm, hb1⟩; refine ⟨_, rfl, ?_⟩; have hba : Ex w1 w2 := Ex.trans (by with_reducible repeat' (first | exact Ex.refl _ | exact hba | refine Ex.alloc ?_ _ | refine Ex.drew ?_)) hb1
    refine hK.out _ _ ?r1_hS4 (fun hHeld4 => ?_)
    case r1_hS4 => exact FK.out _ hba
    clear hK K hHeld1
    try simp only [Act.put, List.setIfInBounds_toArray, List.set_cons_zero, List.set_cons_succ]
    refine tk 7 ?_
    refine wpAnyH_ready (rs := [8]) (by kernel_rfl) (by simp) ?_
    refine AllReadyH.cons (o := ?r1_o5) ?r1_ho5 (fun K hK => ?r1_b5) AllReadyH.nil
    case r1_ho5 => (conv => lhs; whnf; arg 1; whnf)
    case' r1_b5 => skip
    have hr := FR.out _ hba; obtain ⟨hr0, hr1, hr2, hr3, hr4, hr5, hr6, hr7, hr8, hr9, hr10⟩ := hr.c11; have hrf := hr.frozen; have hrl := hr.lt; clear hr; go_simp
    refine hK.out _ _ ?r1_hS5 (fun hHeld5 => ?_)
    case r1_hS5 => exact by go_keep
    clear hK K hHeld4
    try simp only [Act.put, List.setIfInBounds_toArray, List.set_cons_zero, List.set_cons_succ]
    refine tk 9 ?_
    refine wpAnyH_done (by kernel_rfl) ?_ _
    clear hHeld5 hmk
    obtain ⟨wz, hwz⟩ : ∃ wz : World, wz = w2 := ⟨_, rfl⟩
    have hec : Ex w2 wz := by rw [hwz]; exact Ex.refl _
    obtain ⟨gK, hgK⟩ : ∃ g : Nat, g = w1.heap.size := ⟨_, rfl⟩
    have HKB : Hid (Bk 4 wz gK (List.replicate n false) []) := zq (by rw [hwz, hgK]; exact (Bk.replicate _ _ rfl).drew.ex hb1)
    have hgw : w1.heap.size ≤ gK := by have := hba.size; omega
    rw [← hgK]
    have HFA : Hid (Fr 3 wz w1.heap.size A1 c1 m.table.buckets) := zq ((hfm.b.ex hec).mono (by simp))
    have HFB : Hid (Fr 45 wz w1.heap.size B1 d1 m.table.frames) := zq ((hfm.f.ex hec).mono (by simp))
    have HFC : Hid (Fr 64 wz w1.heap.size L1 e1 m.cache.lines) := zq ((hfm.l.ex hec).mono (by simp))
    have HFD : Hid (Fr 93 wz w1.heap.size O1 g1 m.tags.owns) := zq ((hfm.o.ex hec).mono (by simp))
    have HFE : Hid (Fr 4 wz w1.heap.size (some ⟨gK, 0, none⟩) n (List.replicate n false)) := zq (Fr.made HKB.out hgw hnm)
    have HBB := zq (hba.trans hec)
    clear hfm hb1 hr0 hr1 hr2 hr3 hr4 hr5 hr6 hr7 hr8 hr9 hr10 hrf hrl
    subst hwz
    have hr := Blk.put11 (b0 := .slice A1 nb c1) (b1 := .slice B1 n d1) (b2 := .slice L1 nl e1) (b3 := .int .i64 m.cache.hand) (b4 := .int .i64 m.tags.count) (b5 := .int .i64 m.tags.next) (b6 := .int .i64 m.tags.round) (b7 := .slice O1 no g1) (b8 := .int .i64 m.space) (b9 := .slice (some ⟨gK, 0, none⟩) n n) (b10 := .int .i64 0) (FR.out _ HBB.out)
    obtain ⟨hr0, hr1, hr2, hr3, hr4, hr5, hr6, hr7, hr8, hr9, hr10⟩ := hr.c11
    have hl := hr.lt
    clear hr hba hec hgK
    go_wp2
    exact bodyPost_ret (v := .tuple #[.agg #[.slice A1 nb c1, .slice B1 n d1, .slice L1 nl e1, .int .i64 m.cache.hand, .int .i64 m.tags.count, .int .i64 m.tags.next, .int .i64 m.tags.round, .slice O1 no g1, .int .i64 m.space, .slice (some ⟨gK, 0, none⟩) n n, .int .i64 0], .bool true]) (by simp [results, Tryz.results31, go_sem, *]) rfl
      ⟨⟨A1, c1, B1, d1, L1, e1, O1, g1⟩, some ⟨gK, 0, none⟩, n, rfl, FrE.mono (B := w1.heap.size) ⟨⟨by repeat' (first | with_reducible exact HFA.out | with_reducible refine Fr.set_below ?_ hwr _), by repeat' (first | with_reducible exact HFB.out | with_reducible refine Fr.set_below ?_ hwr _), by repeat' (first | with_reducible exact HFC.out | with_reducible refine Fr.set_below ?_ hwr _), by repeat' (first | with_reducible exact HFD.out | with_reducible refine Fr.set_below ?_ hwr _)⟩, by repeat' (first | with_reducible exact HFE.out | with_reducible refine Fr.set_below ?_ hwr _)⟩ hw1, by repeat' (first | with_reducible exact E1.out.trans HBB.out | with_reducible refine Ex.set ?_ hgl _)⟩

set_option maxHeartbeats 8000000 in
theorem clearS_c (x : MemD) (a : MA) (KK : Option Addr) (kc : Nat) (w : World) (h : MemOk x) (hx : HasE w x a KK) (hc : CapE x a kc) (hk : CapX a) (hkk : kc ≤ maxLen) :
    Calls Tryz.prog 36 #[.agg #[.slice a.b x.mach.table.buckets.length a.bc, .slice a.f x.mach.table.frames.length a.fc, .slice a.l x.mach.cache.lines.length a.lc, .int .i64 x.mach.cache.hand, .int .i64 x.mach.tags.count, .int .i64 x.mach.tags.next, .int .i64 x.mach.tags.round, .slice a.o x.mach.tags.owns.length a.oc, .int .i64 x.mach.space, .slice KK x.marks.length kc, .int .i64 x.hand]] w (MemYes (clearMem x) w) := by
  have hf := h.fewE
  have CV := zq (fun w' (e1 : Ex w w') => memS_c x a KK kc w' (hx.ex e1) hf hc)
  rw [memV_iff.2 h] at CV
  have C1 := zq (fun w' (e1 : Ex w w') => l7Copy_c x a KK kc w' (hx.ex e1) hf hc hk hkk)
  have hkl := hf.k
  have hmk := make_rec (P := Tryz.prog) (α := Bool) 35 4 1 false _ Tryz.underlying35 infoMBool rfl x.marks.length (by omega) (by omega)
  have hnm : x.marks.length ≤ maxLen := by simp [maxLen]; omega
  obtain ⟨A, c, B, d, L, e, O, g⟩ := a
  clear hx hf hc hk h hkk
  unfold MemIs at C1
  unfold MemYes clearMem
  dsimp only at C1 CV ⊢
  simp only [List.length_replicate]
  obtain ⟨n, en⟩ : ∃ n, n = x.mach.table.frames.length := ⟨_, rfl⟩
  obtain ⟨nb, enb⟩ : ∃ n, n = x.mach.table.buckets.length := ⟨_, rfl⟩
  obtain ⟨nl, enl⟩ : ∃ n, n = x.mach.cache.lines.length := ⟨_, rfl⟩
  obtain ⟨no, eno⟩ : ∃ n, n = x.mach.tags.owns.length := ⟨_, rfl⟩
  obtain ⟨nm, enm⟩ : ∃ n, n = x.marks.length := ⟨_, rfl⟩
  rw [← en, ← enb, ← enl, ← eno, ← enm] at C1 CV
  rw [← enm] at hmk hkl hnm
  rw [← en, ← enb, ← enl, ← eno, ← enm]
  clear en enb enl eno enm
  go_enter Tryz.func36, Tryz.ntmps36
  go_wp2_with fail
  refine name_calls ?_; intro v1 hv1
  have X1 : Hid (Chg (0) (0) w v1) := zx hv1
  have t1 := X1.out.size
  have Ev1 := zq ((Ex.refl w).chg X1.out (by omega))
  have KX : Hid (Blk v1 (w.heap.size) 37 [.slice A nb c, .slice B n d, .slice L nl e, .int .i64 x.mach.cache.hand, .int .i64 x.mach.tags.count, .int .i64 x.mach.tags.next, .int .i64 x.mach.tags.round, .slice O no g, .int .i64 x.mach.space, .slice KK nm kc, .int .i64 x.hand]) := zk hv1
  have lX : w.heap.size < v1.heap.size := KX.out.lt
  have KR : Hid (Blk v1 (w.heap.size + 1) 37 [.slice none 0 0, .slice none 0 0, .slice none 0 0, .int .i64 0, .int .i64 0, .int .i64 0, .int .i64 0, .slice none 0 0, .int .i64 0, .slice none 0 0, .int .i64 0]) := zk hv1
  have lR : w.heap.size + 1 < v1.heap.size := KR.out.lt
  clear hv1
  refine (CV.out _ Ev1.out).mono ?_; rintro r w1 ⟨rfl, hb1⟩
  have Y1 := zq (Chg.of_ex hb1)
  have s1 := Y1.out.size
  have Ew1 := zq (Ev1.out.chg Y1.out (by omega))
  clear hb1
  replace KX := zq (KX.out.chg Y1.out (by omega))
  replace KR := zq (KR.out.chg Y1.out (by omega))
  obtain ⟨qX0, qX1, qX2, qX3, qX4, qX5, qX6, qX7, qX8, qX9, qX10⟩ := KX.out.c11
  have jX := KX.out.lt
  obtain ⟨qR0, qR1, qR2, qR3, qR4, qR5, qR6, qR7, qR8, qR9, qR10⟩ := KR.out.c11
  have jR := KR.out.lt
  have zR := KR.out.frozen
  go_wp2_with fail
  refine name_calls ?_; intro v2 hv2
  have X2 : Hid (Chg (0) (0) w1 v2) := zx hv2
  have t2 := X2.out.size
  have Ev2 := zq (Ew1.out.chg X2.out (by omega))
  clear qX0 qX1 qX2 qX3 qX4 qX5 qX6 qX7 qX8 qX9 qX10 jX
  clear qR0 qR1 qR2 qR3 qR4 qR5 qR6 qR7 qR8 qR9 qR10 jR zR
  replace KX := zq (KX.out.chg X2.out (by omega))
  replace KR := zq (KR.out.chg X2.out (by omega))
  clear hv2
  refine (C1.out _ Ev2.out).mono ?_; rintro r w2 ⟨⟨A2, c2, B2, d2, L2, e2, O2, g2⟩, K2, k2, rfl, ⟨⟨hfa, hfb, hfc, hfd⟩, hfe⟩, hb2⟩
  have Y2 := zq (Chg.of_ex hb2)
  have s2 := Y2.out.size
  have Ew2 := zq (Ev2.out.chg Y2.out (by omega))
  clear hb2
  replace KX := zq (KX.out.chg Y2.out (by omega))
  replace KR := zq (KR.out.chg Y2.out (by omega))
  have HFA := zq hfa; clear hfa
  have WHFA := zq HFA.out.row
  have HFB := zq hfb; clear hfb
  have WHFB := zq HFB.out.row
  have HFC := zq hfc; clear hfc
  have WHFC := zq HFC.out.row
  have HFD := zq hfd; clear hfd
  have WHFD := zq HFD.out.row
  have HFE := zq hfe; clear hfe
  have WHFE := zq HFE.out.row
  obtain ⟨qX0, qX1, qX2, qX3, qX4, qX5, qX6, qX7, qX8, qX9, qX10⟩ := KX.out.c11
  have jX := KX.out.lt
  obtain ⟨qR0, qR1, qR2, qR3, qR4, qR5, qR6, qR7, qR8, qR9, qR10⟩ := KR.out.c11
  have jR := KR.out.lt
  have zR := KR.out.frozen
  have hne1 : ¬ w2.heap.size = w.heap.size + 1 := by omega
  have hne2 : ¬ w.heap.size + 1 = w2.heap.size := by omega
  have hne3 : ¬ w2.heap.size + 1 = w.heap.size + 1 := by omega
  have hne4 : ¬ w2.heap.size = w.heap.size := by omega
  have hne5 : ¬ w2.heap.size + 1 = w.heap.size := by omega
  go_wp2
  exact bodyPost_ret (v := .tuple #[.agg #[.slice A2 nb c2, .slice B2 n d2, .slice L2 nl e2, .int .i64 x.mach.cache.hand, .int .i64 x.mach.tags.count, .int .i64 x.mach.tags.next, .int .i64 x.mach.tags.round, .slice O2 no g2, .int .i64 x.mach.space, .slice (some ⟨w2.heap.size + 1, 0, none⟩) nm nm, .int .i64 x.hand], .bool true]) (by simp [results, Tryz.results36, go_sem, *]) rfl
    ⟨⟨A2, c2, B2, d2, L2, e2, O2, g2⟩, some ⟨w2.heap.size + 1, 0, none⟩, nm, rfl, ⟨⟨(Fr.mono (zp HFA.out WHFA.out) (by omega)), (Fr.mono (zp HFB.out WHFB.out) (by omega)), (Fr.mono (zp HFC.out WHFC.out) (by omega)), (Fr.mono (zp HFD.out WHFD.out) (by omega))⟩, Fr.made (by repeat' (first | with_reducible refine Bk.far ?_ (by first | (simp; done) | (simp; omega)) _ | exact Bk.replicate _ _ (by simp))) (by omega) hnm⟩, (ze Ew2.out)⟩

def SomeB (w : World) (e : Ending) (w' : World) : Prop := ∃ b : Bool, e = .returned (.bool b) ∧ Ex w w'
set_option maxHeartbeats 4000000 in
theorem wiredS_c (m : MachD) (a : MA) (i : Nat) (w : World) (hx : HasM w m a) (hf : FewM m) :
    Calls Tryz.prog 117 #[.agg #[.slice a.b m.table.buckets.length a.bc, .slice a.f m.table.frames.length a.fc, .slice a.l m.cache.lines.length a.lc, .int .i64 m.cache.hand, .int .i64 m.tags.count, .int .i64 m.tags.next, .int .i64 m.tags.round, .slice a.o m.tags.owns.length a.oc, .int .i64 m.space], .int .i64 i] w (SomeB w) := by
  obtain ⟨A, c, B, d, L, e, O, g⟩ := a
  have HX : Hid (Rd w L m.cache.lines) := zq hx.l
  have hfl := hf.l
  clear hx hf
  dsimp only
  obtain ⟨nl, enl⟩ : ∃ n, n = m.cache.lines.length := ⟨_, rfl⟩
  have HNL := zq enl
  rw [← enl] at hfl
  rw [← enl]
  generalize m.table.frames.length = n
  generalize m.table.buckets.length = nb
  generalize m.tags.owns.length = no
  clear enl
  go_enter Tryz.func117, Tryz.ntmps117
  go_wp2
  go_loopw [5] (fun q wr => ∃ k : Nat, k ≤ nl ∧ q = .int .i64 k ∧ Ex w wr ∧ Blk wr w.heap.size 34 [.slice A nb c, .slice B n d, .slice L nl e, .int .i64 m.cache.hand, .int .i64 m.tags.count, .int .i64 m.tags.next, .int .i64 m.tags.round, .slice O no g, .int .i64 m.space]) (fun q _ => nl - (intOf q).toNat)
  case atStart => exact ⟨0, Nat.zero_le _, rfl, (Ex.refl _).alloc _, Blk.new _ _ _⟩
  case round =>
    obtain ⟨k, hk, rfl, hex, hkx⟩ := hrel
    have HE := zq hex
    have KX := zq hkx
    clear hex hkx
    obtain ⟨q0, q1, q2, q3, q4, q5, q6, q7, q8⟩ := KX.out.c9
    have jX := KX.out.lt
    by_cases hlt : k < nl
    · obtain ⟨b3, o3, x, rfl, hb3, hxk, k0, k1, k2, k3, k4, k5⟩ := (HX.out.ex HE.out).line (k := k) (by have := HNL.out; omega)
      have hkn : (k : Int) < (nl : Int) := by omega
      have hk0 : ¬ (k : Int) < 0 := by omega
      clear hxk
      cases hv : x.valid
      · rw [hv] at k0
        clear hv
        go_wp2
        go_roundw
        case rel => exact ⟨k + 1, by omega, by go_num, HE.out.alloc _, KX.out.alloc _⟩
        case measure => simp [intOf]; omega
      cases hwd : x.wired
      · rw [hv] at k0
        rw [hwd] at k5
        clear hv hwd
        go_wp2
        go_roundw
        case rel => exact ⟨k + 1, by omega, by go_num, HE.out.alloc _, KX.out.alloc _⟩
        case measure => simp [intOf]; omega
      rw [hv] at k0
      rw [hwd] at k5
      clear hv hwd
      by_cases hfr : x.frame = (i : Int)
      · rw [hfr] at k3
        clear hfr
        go_wp2
        go_ret
        exact ⟨true, rfl, HE.out.alloc _⟩
      · have hfr2 : (x.frame == (i : Int)) = false := by simpa using hfr
        have hfr3 : decide (x.frame = (i : Int)) = false := by simpa using hfr
        clear hfr
        go_wp2
        go_roundw
        case rel => exact ⟨k + 1, by omega, by go_num, HE.out.alloc _, KX.out.alloc _⟩
        case measure => simp [intOf]; omega
    · obtain rfl : k = nl := by omega
      go_wp2
      go_ret
      exact ⟨false, rfl, HE.out⟩

/-- What the clock hands back: some marks less, a hand, and -1 or a used frame. -/
def Clocked (x : MemD) (w : World) (e : Ending) (w' : World) : Prop := ∃ (ks : List Bool) (hd : Nat) (at_ : Int) (a : MA) (K : Option Addr) (kc : Nat), e = .returned (.tuple #[.agg #[.slice a.b (⟨x.mach, ks, (hd : Int)⟩ : MemD).mach.table.buckets.length a.bc, .slice a.f (⟨x.mach, ks, (hd : Int)⟩ : MemD).mach.table.frames.length a.fc, .slice a.l (⟨x.mach, ks, (hd : Int)⟩ : MemD).mach.cache.lines.length a.lc, .int .i64 (⟨x.mach, ks, (hd : Int)⟩ : MemD).mach.cache.hand, .int .i64 (⟨x.mach, ks, (hd : Int)⟩ : MemD).mach.tags.count, .int .i64 (⟨x.mach, ks, (hd : Int)⟩ : MemD).mach.tags.next, .int .i64 (⟨x.mach, ks, (hd : Int)⟩ : MemD).mach.tags.round, .slice a.o (⟨x.mach, ks, (hd : Int)⟩ : MemD).mach.tags.owns.length a.oc, .int .i64 (⟨x.mach, ks, (hd : Int)⟩ : MemD).mach.space, .slice K (⟨x.mach, ks, (hd : Int)⟩ : MemD).marks.length kc, .int .i64 (⟨x.mach, ks, (hd : Int)⟩ : MemD).hand], .int .i64 at_]) ∧ LessMarks ks x.marks ∧ hd < ks.length ∧ (at_ = -1 ∨ ∃ (i : Nat) (f : FrameD), at_ = (i : Int) ∧ x.mach.table.frames[i]? = some f ∧ f.used = true) ∧ FrE w' w.heap.size ⟨x.mach, ks, (hd : Int)⟩ a K kc ∧ Ex w w'
theorem LessMarks.len {ks ms : List Bool} (h : LessMarks ks ms) : ks.length = ms.length := h.1
/-- What holds at the head of the clock's loop. -/
def ClockLoop (x : MemD) (w : World) (gO gK k1 nb nm nl no : Nat) (a1 : MA) (rest : List Value) (i : Value) (wr : World) : Prop := ∃ (k : Nat) (ks : List Bool) (hd : Nat), i = .int .i64 k ∧ k ≤ 2 * nm ∧ LessMarks ks x.marks ∧ hd < nm ∧ Blk wr gO 37 [.slice a1.b nb a1.bc, .slice a1.f nm a1.fc, .slice a1.l nl a1.lc, .int .i64 x.mach.cache.hand, .int .i64 x.mach.tags.count, .int .i64 x.mach.tags.next, .int .i64 x.mach.tags.round, .slice a1.o no a1.oc, .int .i64 x.mach.space, .slice (some ⟨gK, 0, none⟩) nm k1, .int .i64 hd] ∧ Bk 4 wr gK ks rest ∧ FrM wr w.heap.size x.mach a1 ∧ Ex w wr ∧ Blk wr (w.heap.size + 1) 37 [.slice none 0 0, .slice none 0 0, .slice none 0 0, .int .i64 0, .int .i64 0, .int .i64 0, .int .i64 0, .slice none 0 0, .int .i64 0, .slice none 0 0, .int .i64 0]

set_option maxHeartbeats 8000000 in
theorem clockS_c (x : MemD) (a : MA) (K : Option Addr) (kc : Nat) (w : World) (h : MemOk x) (hx : HasE w x a K) (hc : CapE x a kc) (hk : CapX a) (hkk : kc ≤ maxLen) :
    Calls Tryz.prog 110 #[.agg #[.slice a.b x.mach.table.buckets.length a.bc, .slice a.f x.mach.table.frames.length a.fc, .slice a.l x.mach.cache.lines.length a.lc, .int .i64 x.mach.cache.hand, .int .i64 x.mach.tags.count, .int .i64 x.mach.tags.next, .int .i64 x.mach.tags.round, .slice a.o x.mach.tags.owns.length a.oc, .int .i64 x.mach.space, .slice K x.marks.length kc, .int .i64 x.hand]] w (Clocked x w) := by
  have C1 := zq (fun w' (e1 : Ex w w') => l7Copy_c x a K kc w' (hx.ex e1) h.fewE hc hk hkk)
  have HX := zq hx
  have hln := h.lens
  have hnf := h.2.1
  have hhd := h.2.2.1
  have hfe := h.1.fewM
  clear hx hc hk hkk h
  unfold Clocked
  obtain ⟨A, c, B, d, L, e, O, g⟩ := a
  unfold MemIs at C1
  dsimp only at C1 ⊢
  obtain ⟨nb, enb⟩ : ∃ n, n = x.mach.table.buckets.length := ⟨_, rfl⟩
  obtain ⟨nl, enl⟩ : ∃ n, n = x.mach.cache.lines.length := ⟨_, rfl⟩
  obtain ⟨no, eno⟩ : ∃ n, n = x.mach.tags.owns.length := ⟨_, rfl⟩
  obtain ⟨nm, enm⟩ : ∃ n, n = x.marks.length := ⟨_, rfl⟩
  have HNM := zq enm
  have HNF : Hid (x.mach.table.frames.length = nm) := zq (by omega)
  have HNB := zq enb
  have HNL := zq enl
  have HNO := zq eno
  rw [← hnf, ← enm, ← enb, ← enl, ← eno] at C1
  rw [← hnf, ← enm, ← enb, ← enl, ← eno]
  rw [← enm] at hln hhd
  clear enb enl eno enm hnf
  obtain ⟨hd0, ehd⟩ := Int.eq_ofNat_of_zero_le hhd.1
  rw [ehd] at C1 hhd
  have HHD := zq ehd
  rw [ehd]
  clear ehd
  go_enter Tryz.func110, Tryz.ntmps110
  go_wp2_with fail
  refine name_calls ?_; intro v1 hv1
  have X1 : Hid (Chg (0) (0) w v1) := zx hv1
  have t1 := X1.out.size
  have Ev1 := zq ((Ex.refl w).chg X1.out (by omega))
  have KX : Hid (Blk v1 (w.heap.size) 37 [.slice A nb c, .slice B nm d, .slice L nl e, .int .i64 x.mach.cache.hand, .int .i64 x.mach.tags.count, .int .i64 x.mach.tags.next, .int .i64 x.mach.tags.round, .slice O no g, .int .i64 x.mach.space, .slice K nm kc, .int .i64 hd0]) := zk hv1
  have lX : w.heap.size < v1.heap.size := KX.out.lt
  have KR : Hid (Blk v1 (w.heap.size + 1) 37 [.slice none 0 0, .slice none 0 0, .slice none 0 0, .int .i64 0, .int .i64 0, .int .i64 0, .int .i64 0, .slice none 0 0, .int .i64 0, .slice none 0 0, .int .i64 0]) := zk hv1
  have lR : w.heap.size + 1 < v1.heap.size := KR.out.lt
  clear hv1
  refine (C1.out _ Ev1.out).mono ?_; rintro r w1 ⟨⟨A1, c1, B1, d1, L1, e1, O1, g1⟩, K1, k1, rfl, hhf1, hb1⟩
  have Y1 := zq (Chg.of_ex hb1)
  have s1 := Y1.out.size
  have Ew1 := zq (Ev1.out.chg Y1.out (by omega))
  clear hb1
  replace KX := zq (KX.out.chg Y1.out (by omega))
  replace KR := zq (KR.out.chg Y1.out (by omega))
  have HHF1 := zq hhf1; clear hhf1
  obtain ⟨qX0, qX1, qX2, qX3, qX4, qX5, qX6, qX7, qX8, qX9, qX10⟩ := KX.out.c11
  have jX := KX.out.lt
  obtain ⟨qR0, qR1, qR2, qR3, qR4, qR5, qR6, qR7, qR8, qR9, qR10⟩ := KR.out.c11
  have jR := KR.out.lt
  have CW := zq (fun (i : Nat) w' (hm : HasM w' x.mach (⟨A1, c1, B1, d1, L1, e1, O1, g1⟩ : MA)) => wiredS_c x.mach (⟨A1, c1, B1, d1, L1, e1, O1, g1⟩ : MA) i w' hm hfe)
  dsimp only at CW
  rw [HNF.out, ← HNB.out, ← HNL.out, ← HNO.out] at CW
  have hf5 := HHF1.out.k
  obtain ⟨gK, rest, rfl, hBg, hbk, hrest⟩ := hf5.open_ (k := 0) (by have := HNM.out; omega)
  have HREST := zq hrest
  have hk1m := hf5.cap
  have hk1l : nm ≤ k1 := by have := hf5.le; have := HNM.out; omega
  have HBK := zq hbk
  have hFM := HHF1.out.m
  have hgK1 := Blk.lt hbk
  have hgKR : w.heap.size + 1 < gK := by omega
  have HST : Hid (ClockLoop x w w1.heap.size gK k1 nb nm nl no (⟨A1, c1, B1, d1, L1, e1, O1, g1⟩ : MA) rest (.int .i64 0) (w1.alloc (.cells #[.slice A1 nb c1, .slice B1 nm d1, .slice L1 nl e1, .int .i64 x.mach.cache.hand, .int .i64 x.mach.tags.count, .int .i64 x.mach.tags.next, .int .i64 x.mach.tags.round, .slice O1 no g1, .int .i64 x.mach.space, .slice (some ⟨gK, 0, none⟩) nm k1, .int .i64 hd0] 37))) := zq ⟨0, x.marks, hd0, rfl, Nat.zero_le _, LessMarks.refl _, by omega, Blk.new _ _ _, HBK.out.alloc _, ⟨(hFM.b.mono (by omega)).alloc _, (hFM.f.mono (by omega)).alloc _, (hFM.l.mono (by omega)).alloc _, (hFM.o.mono (by omega)).alloc _⟩, Ew1.out.alloc _, KR.out.alloc _⟩
  obtain ⟨gO, hgO⟩ : ∃ gO, gO = w1.heap.size := ⟨_, rfl⟩
  have hgOw : w.heap.size + 1 < gO := by omega
  have hgKO : gK < gO := by omega
  clear hrest hbk hf5 hFM HHF1 HBK
  clear qX0 qX1 qX2 qX3 qX4 qX5 qX6 qX7 qX8 qX9 qX10 jX
  clear KX
  clear qR0 qR1 qR2 qR3 qR4 qR5 qR6 qR7 qR8 qR9 qR10 jR
  clear KR
  go_wp2
  rw [← hgO] at HST
  rw [← hgO]
  clear hgO C1
  go_loopw [6] (fun i wr => ClockLoop x w gO gK k1 nb nm nl no (⟨A1, c1, B1, d1, L1, e1, O1, g1⟩ : MA) rest i wr) (fun i _ => 2 * nm - (intOf i).toNat)
  case atStart => exact HST.out
  case round =>
    clear HST
    obtain ⟨k, ks, hd, rfl, hk, hls, hhd1, hko, hbk, hfm, hex, hkr⟩ := hrel
    have HLS := zq hls
    have KO := zq hko
    have HBK := zq hbk
    have HFM := zq hfm
    have HE := zq hex
    have KR := zq hkr
    have hksl : ks.length = nm := by rw [hls.len]; exact HNM.out.symm
    clear hls hko hbk hfm hex hkr
    have HREST2 : Hid ((k1 - ks.length) * sz Bool ≤ rest.length) := zq (by rw [HLS.out.len]; exact HREST.out)
    have hjO := KO.out.lt
    dsimp only at KO
    by_cases hlt : k < 2 * nm
    · have hlt' : (k : Int) < 2 * (nm : Int) := by omega
      obtain ⟨b2, rs2, rfl, hBb, hbf, hrs2⟩ := HFM.out.f.open_ (k := hd) (by have := HNF.out; omega)
      obtain ⟨f, hfk⟩ : ∃ f, x.mach.table.frames[hd]? = some f := ⟨_, List.getElem?_eq_getElem (by have := HNF.out; omega)⟩
      obtain ⟨d0, d1', d2', d3', d4'⟩ := hbf.frame hfk
      have hd1p : 0 < d1 := by have := HFM.out.f.le; dsimp only at this; have := HNF.out; omega
      have hb2O : ¬ b2 = gO := (HFM.out.f.off KO.out (by decide)) b2 (rowOf_some hd1p)
      have hb2O' : ¬ gO = b2 := fun e => hb2O e.symm
      have hb2l := Blk.lt hbf
      have HFK := zq hfk
      obtain ⟨v, hv⟩ : ∃ v, ks[hd]? = some v := ⟨_, List.getElem?_eq_getElem (by omega)⟩
      have HKV := zq hv
      have HMOD : Hid (((hd : Int) + 1) % (nm : Int) = (((hd + 1) % nm : Nat) : Int)) := zq (by push_cast; rfl)
      have hhd2 : (hd + 1) % nm < nm := Nat.mod_lt _ (by omega)
      have hhdn : (hd : Int) < (nm : Int) := by omega
      have hhd0 : ¬ (hd : Int) < 0 := by omega
      have hnm0 : ¬ ((nm : Int) = 0) := by omega
      have HNb := zq (HFM.out.b.off KO.out (by decide))
      have HNf := zq (HFM.out.f.off KO.out (by decide))
      have HNl := zq (HFM.out.l.off KO.out (by decide))
      have HNo := zq (HFM.out.o.off KO.out (by decide))
      have KOS : Hid (Blk (wr.setCell ⟨gO, 10, none⟩ (.int .i64 (((hd : Int) + 1) % (nm : Int)))) gO 37 [.slice A1 nb c1, .slice (some ⟨b2, 0, none⟩) nm d1, .slice L1 nl e1, .int .i64 x.mach.cache.hand, .int .i64 x.mach.tags.count, .int .i64 x.mach.tags.next, .int .i64 x.mach.tags.round, .slice O1 no g1, .int .i64 x.mach.space, .slice (some ⟨gK, 0, none⟩) nm k1, .int .i64 (((hd + 1) % nm : Nat) : Int)]) := zq (by rw [HMOD.out]; exact KO.out.set 10 _)
      have FMS : Hid (FrM (wr.setCell ⟨gO, 10, none⟩ (.int .i64 (((hd : Int) + 1) % (nm : Int)))) w.heap.size x.mach (⟨A1, c1, some ⟨b2, 0, none⟩, d1, L1, e1, O1, g1⟩ : MA)) := zq ⟨HFM.out.b.put HNb.out _, HFM.out.f.put HNf.out _, HFM.out.l.put HNl.out _, HFM.out.o.put HNo.out _⟩
      have MKS : Hid (Bk 4 (wr.setCell ⟨gO, 10, none⟩ (.int .i64 (((hd : Int) + 1) % (nm : Int)))) gK ks rest) := zq (HBK.out.far (Nat.ne_of_lt hgKO) _)
      have ES : Hid (Ex w (wr.setCell ⟨gO, 10, none⟩ (.int .i64 (((hd : Int) + 1) % (nm : Int))))) := zq (HE.out.put (by omega) _)
      have KRS : Hid (Blk (wr.setCell ⟨gO, 10, none⟩ (.int .i64 (((hd : Int) + 1) % (nm : Int)))) (w.heap.size + 1) 37 [.slice none 0 0, .slice none 0 0, .slice none 0 0, .int .i64 0, .int .i64 0, .int .i64 0, .int .i64 0, .slice none 0 0, .int .i64 0, .slice none 0 0, .int .i64 0]) := zq (KR.out.far (by simp; omega) _)
      obtain ⟨o0, o1, o2, o3, o4, o5, o6, o7, o8, o9, o10⟩ := KO.out.c11
      have oz := KO.out.frozen
      clear hbf hrs2 hfk hv d1' d2' d3' d4' hBb
      cases hu : f.used
      · rw [hu] at d0
        clear hu
        go_wp2
        go_roundw
        case rel => exact ⟨k + 1, ks, (hd + 1) % nm, by go_num, by omega, HLS.out, hhd2, KOS.out, MKS.out, FMS.out, ES.out, KRS.out⟩
        case measure => simp [intOf]; omega
      rw [hu] at d0
      have HU := zq hu
      clear hu
      go_wp2_with fail
      refine (CW.out hd _ FMS.out.has).mono ?_
      rintro r w5 ⟨bw, rfl, hb5⟩
      have KO5 := zq (KOS.out.ex hb5)
      have FM5 := zq (FrM.ex FMS.out hb5)
      have MK5 := zq (MKS.out.ex hb5)
      have E5 := zq (ES.out.trans hb5)
      have KR5 := zq (KRS.out.ex hb5)
      clear KOS FMS MKS ES KRS hb5 o0 o1 o2 o3 o4 o5 o6 o7 o8 o9 o10 oz d0 hjO hb2l
      cases bw
      rotate_left
      · go_wp2
        go_roundw
        case rel => exact ⟨k + 1, ks, (hd + 1) % nm, by go_num, by omega, HLS.out, hhd2, KO5.out, MK5.out, FM5.out, E5.out, KR5.out⟩
        case measure => simp [intOf]; omega
      obtain ⟨o0, o1, o2, o3, o4, o5, o6, o7, o8, o9, o10⟩ := KO5.out.c11
      have oz := KO5.out.frozen
      have hjO := KO5.out.lt
      have m0 := MK5.out.bool HKV.out
      have mz := MK5.out.frozen hd
      have ml := Blk.lt MK5.out
      cases v
      · have HRb := zq (FM5.out.b.off KR5.out (by decide))
        have HRf := zq (FM5.out.f.off KR5.out (by decide))
        have HRl := zq (FM5.out.l.off KR5.out (by decide))
        have HRo := zq (FM5.out.o.off KR5.out (by decide))
        obtain ⟨r0, r1, r2, r3, r4, r5, r6, r7, r8, r9, r10⟩ := KR5.out.c11
        have rz := KR5.out.frozen
        have rl := KR5.out.lt
        have hgR : ¬ gO = w.heap.size + 1 := by omega
        have hgR2 : ¬ w.heap.size + 1 = gO := by omega
        go_wp2
        exact bodyPost_ret (v := .tuple #[.agg #[.slice A1 nb c1, .slice (some ⟨b2, 0, none⟩) nm d1, .slice L1 nl e1, .int .i64 x.mach.cache.hand, .int .i64 x.mach.tags.count, .int .i64 x.mach.tags.next, .int .i64 x.mach.tags.round, .slice O1 no g1, .int .i64 x.mach.space, .slice (some ⟨gK, 0, none⟩) nm k1, .int .i64 (((hd + 1) % nm : Nat) : Int)], .int .i64 hd]) (by simp [results, Tryz.results110, go_sem, *]) rfl
          ⟨ks, (hd + 1) % nm, (hd : Int), (⟨A1, c1, some ⟨b2, 0, none⟩, d1, L1, e1, O1, g1⟩ : MA), some ⟨gK, 0, none⟩, k1, by rw [hksl], HLS.out, by omega, Or.inr ⟨hd, f, rfl, HFK.out, HU.out⟩, ⟨⟨by repeat' (first | with_reducible exact FM5.out.b | with_reducible refine Fr.put ?_ HRb.out _), by repeat' (first | with_reducible exact FM5.out.f | with_reducible refine Fr.put ?_ HRf.out _), by repeat' (first | with_reducible exact FM5.out.l | with_reducible refine Fr.put ?_ HRl.out _), by repeat' (first | with_reducible exact FM5.out.o | with_reducible refine Fr.put ?_ HRo.out _)⟩, Fr.close (by with_reducible repeat' (first | exact MK5.out | refine Bk.far ?_ (by simp; omega) _)) (by omega) HREST2.out (show ks.length ≤ k1 by omega) hk1m⟩, by repeat' (first | with_reducible exact E5.out | with_reducible refine Ex.put ?_ (by omega) _)⟩
      · have hgKO2 : ¬ gO = gK := by omega
        have HKs : Hid (FrM (w5.setCell ⟨gK, hd, none⟩ (.bool false)) w.heap.size x.mach (⟨A1, c1, some ⟨b2, 0, none⟩, d1, L1, e1, O1, g1⟩ : MA)) := zq ⟨FM5.out.b.put (FM5.out.b.off MK5.out (by decide)) _, FM5.out.f.put (FM5.out.f.off MK5.out (by decide)) _, FM5.out.l.put (FM5.out.l.off MK5.out (by decide)) _, FM5.out.o.put (FM5.out.o.off MK5.out (by decide)) _⟩
        have HMs : Hid (Bk 4 (w5.setCell ⟨gK, hd, none⟩ (.bool false)) gK (ks.set hd false) rest) := zq (MK5.out.set_bool false (by omega))
        go_wp2
        go_roundw
        case rel => exact ⟨k + 1, ks.set hd false, (hd + 1) % nm, by go_num, by omega, HLS.out.off _, hhd2, KO5.out.far hgKO2 _, HMs.out, HKs.out, E5.out.put (by omega) _, KR5.out.far (by simp; omega) _⟩
        case measure => simp [intOf]; omega
    · obtain rfl : k = 2 * nm := by omega
      have hge : ¬ (((2 * nm : Nat) : Int) < 2 * (nm : Int)) := by omega
      have HRb := zq (HFM.out.b.off KR.out (by decide))
      have HRf := zq (HFM.out.f.off KR.out (by decide))
      have HRl := zq (HFM.out.l.off KR.out (by decide))
      have HRo := zq (HFM.out.o.off KR.out (by decide))
      obtain ⟨o0, o1, o2, o3, o4, o5, o6, o7, o8, o9, o10⟩ := KO.out.c11
      have oz := KO.out.frozen
      obtain ⟨r0, r1, r2, r3, r4, r5, r6, r7, r8, r9, r10⟩ := KR.out.c11
      have rz := KR.out.frozen
      have rl := KR.out.lt
      have hgR : ¬ gO = w.heap.size + 1 := by omega
      have hgR2 : ¬ w.heap.size + 1 = gO := by omega
      go_wp2
      exact bodyPost_ret (v := .tuple #[.agg #[.slice A1 nb c1, .slice B1 nm d1, .slice L1 nl e1, .int .i64 x.mach.cache.hand, .int .i64 x.mach.tags.count, .int .i64 x.mach.tags.next, .int .i64 x.mach.tags.round, .slice O1 no g1, .int .i64 x.mach.space, .slice (some ⟨gK, 0, none⟩) nm k1, .int .i64 hd], .int .i64 (-1)]) (by simp [results, Tryz.results110, go_sem, *]) rfl
        ⟨ks, hd, -1, (⟨A1, c1, B1, d1, L1, e1, O1, g1⟩ : MA), some ⟨gK, 0, none⟩, k1, by rw [hksl], HLS.out, by omega, Or.inl rfl, ⟨⟨by repeat' (first | with_reducible exact HFM.out.b | with_reducible refine Fr.put ?_ HRb.out _), by repeat' (first | with_reducible exact HFM.out.f | with_reducible refine Fr.put ?_ HRf.out _), by repeat' (first | with_reducible exact HFM.out.l | with_reducible refine Fr.put ?_ HRl.out _), by repeat' (first | with_reducible exact HFM.out.o | with_reducible refine Fr.put ?_ HRo.out _)⟩, Fr.close (by with_reducible repeat' (first | exact HBK.out | refine Bk.far ?_ (by simp; omega) _)) (by omega) HREST2.out (show ks.length ≤ k1 by omega) hk1m⟩, by repeat' (first | with_reducible exact HE.out | with_reducible refine Ex.put ?_ (by omega) _)⟩

/-- What l7Bring hands back: a memory that has the page, or none. -/
def Brought (x : MemD) (page : Int) (w : World) (e : Ending) (w' : World) : Prop := ∃ (q : MemD) (ok : Bool) (a : MA) (K : Option Addr) (kc : Nat), e = .returned (.tuple #[.agg #[.slice a.b q.mach.table.buckets.length a.bc, .slice a.f q.mach.table.frames.length a.fc, .slice a.l q.mach.cache.lines.length a.lc, .int .i64 q.mach.cache.hand, .int .i64 q.mach.tags.count, .int .i64 q.mach.tags.next, .int .i64 q.mach.tags.round, .slice a.o q.mach.tags.owns.length a.oc, .int .i64 q.mach.space, .slice K q.marks.length kc, .int .i64 q.hand], .bool ok]) ∧ (ok = true → MemOk q ∧ 0 ≤ findF q.mach.table (keyFor q.mach.space page)) ∧ FrE w' w.heap.size q a K kc ∧ Ex w w'
/-- Where a machine has been made and lies in a box, to be put into the memory in box gO. -/
def BrCut (w : World) (gO : Nat) (q : MemD) (aq : MA) (K : Option Addr) (k : Nat) (qm : MachD) (s t : Value) (wx : World) : Prop := ∃ (gM : Nat) (am : MA), s = .pointer (some ⟨gM, 0, none⟩) ∧ t = .bool true ∧ Blk wx gM 34 [.slice am.b qm.table.buckets.length am.bc, .slice am.f qm.table.frames.length am.fc, .slice am.l qm.cache.lines.length am.lc, .int .i64 qm.cache.hand, .int .i64 qm.tags.count, .int .i64 qm.tags.next, .int .i64 qm.tags.round, .slice am.o qm.tags.owns.length am.oc, .int .i64 qm.space] ∧ Blk wx gO 37 [.slice aq.b q.mach.table.buckets.length aq.bc, .slice aq.f q.mach.table.frames.length aq.fc, .slice aq.l q.mach.cache.lines.length aq.lc, .int .i64 q.mach.cache.hand, .int .i64 q.mach.tags.count, .int .i64 q.mach.tags.next, .int .i64 q.mach.tags.round, .slice aq.o q.mach.tags.owns.length aq.oc, .int .i64 q.mach.space, .slice K q.marks.length k, .int .i64 q.hand] ∧ FrM wx w.heap.size qm am ∧ Fr 4 wx w.heap.size K k q.marks ∧ Ex w wx ∧ Blk wx (w.heap.size + 1) 37 [.slice none 0 0, .slice none 0 0, .slice none 0 0, .int .i64 0, .int .i64 0, .int .i64 0, .int .i64 0, .slice none 0 0, .int .i64 0, .slice none 0 0, .int .i64 0] ∧ gO < gM
theorem name_code {P : Program} {c : Code} {Q : Exit → Act → World → Prop} {a : Act} {w : World} (h : ∀ v, v = w → Code.wp P c Q a v) : Code.wp P c Q a w := h w rfl
theorem Blk.put9b {w : World} {g : Nat} {t : TypeId} {a0 a1 a2 a3 a4 a5 a6 a7 a8 a9 a10 b0 b1 b2 b3 b4 b5 b6 b7 b8 : Value} (h : Blk w g t [a0, a1, a2, a3, a4, a5, a6, a7, a8, a9, a10]) :
    Blk (((((((((w.setCell ⟨g, 0, none⟩ b0).setCell ⟨g, 1, none⟩ b1).setCell ⟨g, 2, none⟩ b2).setCell ⟨g, 3, none⟩ b3).setCell ⟨g, 4, none⟩ b4).setCell ⟨g, 5, none⟩ b5).setCell ⟨g, 6, none⟩ b6).setCell ⟨g, 7, none⟩ b7).setCell ⟨g, 8, none⟩ b8) g t [b0, b1, b2, b3, b4, b5, b6, b7, b8, a9, a10] :=
  ((((((((h.set 0 b0).set 1 b1).set 2 b2).set 3 b3).set 4 b4).set 5 b5).set 6 b6).set 7 b7).set 8 b8
def noMem : MemD := ⟨noMach, [], 0⟩
theorem firstFree {t : TableD} : freeF_ t = -1 ∨ ∃ (i : Nat) (f : FrameD), freeF_ t = (i : Int) ∧ t.frames[i]? = some f ∧ f.used = false := by
  rcases firstOf_cases (fun f : FrameD => !f.used) t.frames with ⟨h, _⟩ | ⟨k, f, h, hf, hu, _⟩
  · exact .inl h
  · exact .inr ⟨k, f, h, hf, by simpa using hu⟩

set_option maxHeartbeats 16000000 in
theorem bringS_c (x : MemD) (a : MA) (K : Option Addr) (kc : Nat) (page rights : Int) (w : World) (h : MemOk x) (hx : HasE w x a K) (hc : CapE x a kc) (hk : CapX a) (hkk : kc ≤ maxLen) (hp : 0 ≤ page ∧ page < 256) (hr : 0 ≤ rights ∧ rights < 8) (hn : findF x.mach.table (keyFor x.mach.space page) < 0) :
    Calls Tryz.prog 97 #[.agg #[.slice a.b x.mach.table.buckets.length a.bc, .slice a.f x.mach.table.frames.length a.fc, .slice a.l x.mach.cache.lines.length a.lc, .int .i64 x.mach.cache.hand, .int .i64 x.mach.tags.count, .int .i64 x.mach.tags.next, .int .i64 x.mach.tags.round, .slice a.o x.mach.tags.owns.length a.oc, .int .i64 x.mach.space, .slice K x.marks.length kc, .int .i64 x.hand], .int .i64 page, .int .i64 rights] w (Brought x page w) := by
  have hka := keyFor_again x.mach.space page
  have hko := keyFor_keyOk h.1 hp
  have C1 := zq (fun w' (e1 : Ex w w') => l7Copy_c x a K kc w' (hx.ex e1) h.fewE hc hk hkk)
  have C2 := zq (fun w' (e1 : Ex w w') => l7Free_c x.mach.table a.b a.bc a.f a.fc w' (hx.m.f.ex e1) h.1.fewM.f)
  have CKF := zq (fun w' => keyForS_c x.mach.space page w')
  obtain ⟨ky, hky⟩ : ∃ ky, ky = keyFor x.mach.space page := ⟨_, rfl⟩
  have HKY := zq hky
  rw [← hky] at hka hko CKF hn
  unfold MemIs at C1
  have CE0 : Hid (∀ (args : Array Value) (w : World), (callFunc 80 args).run Tryz.prog w = .ok (.enter 80 args) w) := zq (enters Tryz.func80 (by kernel_rfl) (by kernel_rfl))
  have CE1 : Hid (∀ (args : Array Value) (w : World), (callFunc 90 args).run Tryz.prog w = .ok (.enter 90 args) w) := zq (enters Tryz.func90 (by kernel_rfl) (by kernel_rfl))
  rcases firstFree (t := x.mach.table) with hfr | ⟨i, f, hfr, hf, hu⟩
  rotate_left
  · -- a frame is free
    obtain ⟨p1, p2, p3, p4, p5⟩ := h.put (rt := rights) hko hka hr hf hu hn
    obtain ⟨qm, hqm⟩ : ∃ qm, putM x.mach ky i rights = (qm, true) := ⟨_, by rw [← p1]⟩
    have CPP := zq (fun (aq : MA) w' (h1 : HasM w' x.mach aq) (h2 : CapM x.mach aq) (h3 : CapX aq) => putS_c x.mach aq ky i rights w' h.1 h1 h2 h3 hko hka hr (getElem?_lt hf))
    rw [hqm] at CPP p2 p3 p4
    unfold MachOr at CPP
    dsimp only at CPP p2 p3 p4
    have HFIN : Hid (MemOk ⟨qm, x.marks, x.hand⟩ ∧ 0 ≤ findF qm.table (keyFor qm.space page)) := zq ⟨p2, by rw [p4, ← hky, p3]; omega⟩
    rw [hfr] at C2
    clear hfr hf hu hqm p1 p2 p3 p4 p5 hx hc hk hkk h hky hn hp hr hka hko
    go_enter Tryz.func97, Tryz.ntmps97
    go_wp2_with fail
    refine name_calls ?_; intro v1 hv1
    have X1 : Hid (Chg (0) (0) w v1) := zx hv1
    have t1 := X1.out.size
    have Ev1 := zq ((Ex.refl w).chg X1.out (by omega))
    have KX : Hid (Blk v1 (w.heap.size) 37 [.slice a.b x.mach.table.buckets.length a.bc, .slice a.f x.mach.table.frames.length a.fc, .slice a.l x.mach.cache.lines.length a.lc, .int .i64 x.mach.cache.hand, .int .i64 x.mach.tags.count, .int .i64 x.mach.tags.next, .int .i64 x.mach.tags.round, .slice a.o x.mach.tags.owns.length a.oc, .int .i64 x.mach.space, .slice K x.marks.length kc, .int .i64 x.hand]) := zk hv1
    have lX : w.heap.size < v1.heap.size := KX.out.lt
    have KR : Hid (Blk v1 (w.heap.size + 1) 37 [.slice none 0 0, .slice none 0 0, .slice none 0 0, .int .i64 0, .int .i64 0, .int .i64 0, .int .i64 0, .slice none 0 0, .int .i64 0, .slice none 0 0, .int .i64 0]) := zk hv1
    have lR : w.heap.size + 1 < v1.heap.size := KR.out.lt
    clear hv1
    refine (C1.out _ Ev1.out).mono ?_; rintro r w1 ⟨aq, Kq, kq, rfl, hhf1, hb1⟩
    have Y1 := zq (Chg.of_ex hb1)
    have s1 := Y1.out.size
    have Ew1 := zq (Ev1.out.chg Y1.out (by omega))
    clear hb1
    replace KX := zq (KX.out.chg Y1.out (by omega))
    replace KR := zq (KR.out.chg Y1.out (by omega))
    have HHF1 := zq hhf1; clear hhf1
    obtain ⟨qX0, qX1, qX2, qX3, qX4, qX5, qX6, qX7, qX8, qX9, qX10⟩ := KX.out.c11
    have jX := KX.out.lt
    obtain ⟨qR0, qR1, qR2, qR3, qR4, qR5, qR6, qR7, qR8, qR9, qR10⟩ := KR.out.c11
    have jR := KR.out.lt
    go_wp2_with fail
    refine name_calls ?_; intro v2 hv2
    have X2 : Hid (Chg (0) (0) w1 v2) := zx hv2
    have t2 := X2.out.size
    have Ev2 := zq (Ew1.out.chg X2.out (by omega))
    clear qX0 qX1 qX2 qX3 qX4 qX5 qX6 qX7 qX8 qX9 qX10 jX
    clear qR0 qR1 qR2 qR3 qR4 qR5 qR6 qR7 qR8 qR9 qR10 jR
    replace KX := zq (KX.out.chg X2.out (by omega))
    replace KR := zq (KR.out.chg X2.out (by omega))
    have KO : Hid (Blk v2 (w1.heap.size) 37 [.slice aq.b x.mach.table.buckets.length aq.bc, .slice aq.f x.mach.table.frames.length aq.fc, .slice aq.l x.mach.cache.lines.length aq.lc, .int .i64 x.mach.cache.hand, .int .i64 x.mach.tags.count, .int .i64 x.mach.tags.next, .int .i64 x.mach.tags.round, .slice aq.o x.mach.tags.owns.length aq.oc, .int .i64 x.mach.space, .slice Kq x.marks.length kq, .int .i64 x.hand]) := zk hv2
    have lO : w1.heap.size < v2.heap.size := KO.out.lt
    clear hv2
    refine (C2.out _ Ev2.out).mono ?_; rintro r w2 ⟨rfl, hb2⟩
    have Y2 := zq (Chg.of_ex hb2)
    have s2 := Y2.out.size
    have Ew2 := zq (Ev2.out.chg Y2.out (by omega))
    clear hb2
    replace KX := zq (KX.out.chg Y2.out (by omega))
    replace KR := zq (KR.out.chg Y2.out (by omega))
    replace KO := zq (KO.out.chg Y2.out (by omega))
    obtain ⟨qX0, qX1, qX2, qX3, qX4, qX5, qX6, qX7, qX8, qX9, qX10⟩ := KX.out.c11
    have jX := KX.out.lt
    obtain ⟨qR0, qR1, qR2, qR3, qR4, qR5, qR6, qR7, qR8, qR9, qR10⟩ := KR.out.c11
    have jR := KR.out.lt
    obtain ⟨qO0, qO1, qO2, qO3, qO4, qO5, qO6, qO7, qO8, qO9, qO10⟩ := KO.out.c11
    have jO := KO.out.lt
    have HEX := zq Ew2.out
    have E12 : Ex w1 w2 := X2.out.ex_.trans Y2.out.ex_
    have HFM : Hid (FrM w2 w.heap.size x.mach aq) := zq (FrM.ex (FrM.mono HHF1.out.m (by omega)) E12)
    have HFK : Hid (Fr 4 w2 w.heap.size Kq kq x.marks) := zq ((HHF1.out.k.mono (by omega)).ex E12)
    have HKO : Hid (Blk w2 w1.heap.size 37 [.slice aq.b x.mach.table.buckets.length aq.bc, .slice aq.f x.mach.table.frames.length aq.fc, .slice aq.l x.mach.cache.lines.length aq.lc, .int .i64 x.mach.cache.hand, .int .i64 x.mach.tags.count, .int .i64 x.mach.tags.next, .int .i64 x.mach.tags.round, .slice aq.o x.mach.tags.owns.length aq.oc, .int .i64 x.mach.space, .slice Kq x.marks.length kq, .int .i64 x.hand]) := zq KO.out
    have HKR : Hid (Blk w2 (w.heap.size + 1) 37 [.slice none 0 0, .slice none 0 0, .slice none 0 0, .int .i64 0, .int .i64 0, .int .i64 0, .int .i64 0, .slice none 0 0, .int .i64 0, .slice none 0 0, .int .i64 0]) := zq KR.out
    have CPP := zq (fun w' (h1 : HasM w' x.mach aq) => CPP.out aq w' h1 HFM.out.cap HFM.out.capx)
    have hOR : w.heap.size + 1 < w1.heap.size := by omega
    obtain ⟨gO, hgO⟩ : ∃ gO, gO = w1.heap.size := ⟨_, rfl⟩
    rw [← hgO] at HKO hOR
    clear qX0 qX1 qX2 qX3 qX4 qX5 qX6 qX7 qX8 qX9 qX10 jX
    clear KX
    clear qR0 qR1 qR2 qR3 qR4 qR5 qR6 qR7 qR8 qR9 qR10 jR
    clear KR
    clear qO0 qO1 qO2 qO3 qO4 qO5 qO6 qO7 qO8 qO9 qO10 jO
    clear KO
    clear E12 HHF1 C1 C2
    go_wp2_with fail
    rw [← hgO]
    clear hgO
    have FKO : Hid (∀ w', Ex w2 w' → (w'.cell? ⟨gO, 0, none⟩ = some (.slice aq.b x.mach.table.buckets.length aq.bc) ∧ w'.cell? ⟨gO, 1, none⟩ = some (.slice aq.f x.mach.table.frames.length aq.fc) ∧ w'.cell? ⟨gO, 2, none⟩ = some (.slice aq.l x.mach.cache.lines.length aq.lc) ∧ w'.cell? ⟨gO, 3, none⟩ = some (.int .i64 x.mach.cache.hand) ∧ w'.cell? ⟨gO, 4, none⟩ = some (.int .i64 x.mach.tags.count) ∧ w'.cell? ⟨gO, 5, none⟩ = some (.int .i64 x.mach.tags.next) ∧ w'.cell? ⟨gO, 6, none⟩ = some (.int .i64 x.mach.tags.round) ∧ w'.cell? ⟨gO, 7, none⟩ = some (.slice aq.o x.mach.tags.owns.length aq.oc) ∧ w'.cell? ⟨gO, 8, none⟩ = some (.int .i64 x.mach.space) ∧ w'.cell? ⟨gO, 9, none⟩ = some (.slice Kq x.marks.length kq) ∧ w'.cell? ⟨gO, 10, none⟩ = some (.int .i64 x.hand))) := zq (fun w' h => (HKO.out.ex h).c11)
    have hjO : gO < w2.heap.size := HKO.out.lt
    have hjw : w.heap.size ≤ w2.heap.size := HEX.out.size
    go_cut [12, 13] (fun s12 s13 wx => BrCut w gO x aq Kq kq qm s12 s13 wx)
    case first =>
      refine wp_region_held_drew (S := (fun w' => (w'.cell? ⟨gO, 0, none⟩ = some (.slice aq.b x.mach.table.buckets.length aq.bc) ∧ w'.cell? ⟨gO, 1, none⟩ = some (.slice aq.f x.mach.table.frames.length aq.fc) ∧ w'.cell? ⟨gO, 2, none⟩ = some (.slice aq.l x.mach.cache.lines.length aq.lc) ∧ w'.cell? ⟨gO, 3, none⟩ = some (.int .i64 x.mach.cache.hand) ∧ w'.cell? ⟨gO, 4, none⟩ = some (.int .i64 x.mach.tags.count) ∧ w'.cell? ⟨gO, 5, none⟩ = some (.int .i64 x.mach.tags.next) ∧ w'.cell? ⟨gO, 6, none⟩ = some (.int .i64 x.mach.tags.round) ∧ w'.cell? ⟨gO, 7, none⟩ = some (.slice aq.o x.mach.tags.owns.length aq.oc) ∧ w'.cell? ⟨gO, 8, none⟩ = some (.int .i64 x.mach.space) ∧ w'.cell? ⟨gO, 9, none⟩ = some (.slice Kq x.marks.length kq) ∧ w'.cell? ⟨gO, 10, none⟩ = some (.int .i64 x.hand)))) (by kernel_rfl) ?r3_hS0 (fun hHeld => ?_)
      case r3_hS0 => exact FKO.out _ (Ex.refl _).drew
      refine tk 0 ?_; refine tk 1 ?_; refine tk 2 ?_; refine tk 3 ?_; refine tk 4 ?_; refine tk 5 ?_; refine tk 7 ?_; refine tk 8 ?_
      refine wpAnyH_ready (rs := [6, 13]) (by kernel_rfl) (by simp) ?_
      refine AllReadyH.cons (o := ?r3_o0) ?r3_ho0 (fun K hK => ?r3_b0) (AllReadyH.cons (o := ?r3_o1) ?r3_ho1 (fun K hK => ?r3_b1) AllReadyH.nil)
      case r3_ho0 => (conv => lhs; whnf; arg 1; whnf)
      case r3_ho1 => (conv => lhs; whnf; arg 1; whnf)
      case r3_b0 =>
        refine step_call_gu rfl CE0.out _ _ rfl #[.int .i64 x.mach.space, .int .i64 page] rfl (CKF.out _) ?_; rintro r wf0 ⟨rfl, hb0⟩; refine ⟨_, rfl, ?_⟩; have hE0 : Ex w2 wf0 := Ex.trans (by with_reducible repeat' (first | exact Ex.refl _ | exact hE1 | exact hE0 | refine Ex.alloc ?_ _ | refine Ex.drew ?_)) hb0; have hz0 := hE0.size; have hy0 := hb0.size
        refine hK.out _ _ ?r3_hS0 (fun hHeld0 => ?_)
        case r3_hS0 => exact FKO.out _ hE0
        clear hK K hHeld
        try simp only [Act.put, List.setIfInBounds_toArray, List.set_cons_zero, List.set_cons_succ]
        refine wpAnyH_ready (rs := [9, 13]) (by kernel_rfl) (by simp) ?_
        refine AllReadyH.cons (o := ?r3_o2) ?r3_ho2 (fun K hK => ?r3_b2) (AllReadyH.cons (o := ?r3_o3) ?r3_ho3 (fun K hK => ?r3_b3) AllReadyH.nil)
        case r3_ho2 => (conv => lhs; whnf; arg 1; whnf)
        case r3_ho3 => (conv => lhs; whnf; arg 1; whnf)
        case r3_b2 =>
          refine step_call_gu rfl CE1.out _ _ rfl #[.agg #[.slice aq.b x.mach.table.buckets.length aq.bc, .slice aq.f x.mach.table.frames.length aq.fc, .slice aq.l x.mach.cache.lines.length aq.lc, .int .i64 x.mach.cache.hand, .int .i64 x.mach.tags.count, .int .i64 x.mach.tags.next, .int .i64 x.mach.tags.round, .slice aq.o x.mach.tags.owns.length aq.oc, .int .i64 x.mach.space], .agg #[.int .i64 ky.space, .int .i64 ky.page], .int .i64 i, .int .i64 rights] rfl (CPP.out _ (HFM.out.has.ex (by with_reducible repeat' (first | exact Ex.refl _ | exact hE1 | exact hE0 | refine Ex.alloc ?_ _ | refine Ex.drew ?_)))) ?_; rintro r wf1 ⟨am, rfl, hfm, hb1⟩; refine ⟨_, rfl, ?_⟩; have hE1 : Ex w2 wf1 := Ex.trans (by with_reducible repeat' (first | exact Ex.refl _ | exact hE1 | exact hE0 | refine Ex.alloc ?_ _ | refine Ex.drew ?_)) hb1; have hz1 := hE1.size; have hy1 := hb1.size
          refine hK.out _ _ ?r3_hS2 (fun hHeld2 => ?_)
          case r3_hS2 => exact FKO.out _ hE1
          clear hK K hHeld0
          try simp only [Act.put, List.setIfInBounds_toArray, List.set_cons_zero, List.set_cons_succ]
          refine tk 10 ?_; refine tk 11 ?_; refine tk 12 ?_
          refine wpAnyH_ready (rs := [13]) (by kernel_rfl) (by simp) ?_
          refine AllReadyH.cons (o := ?r3_o4) ?r3_ho4 (fun K hK => ?r3_b4) AllReadyH.nil
          case r3_ho4 => (conv => lhs; whnf; arg 1; whnf)
          case' r3_b4 => skip
          go_simp
          refine hK.out _ _ ?r3_hS4 (fun hHeld4 => ?_)
          case r3_hS4 => exact FKO.out _ (by with_reducible repeat' (first | exact Ex.refl _ | exact hE1 | exact hE0 | refine Ex.alloc ?_ _ | refine Ex.drew ?_))
          clear hK K hHeld2
          try simp only [Act.put, List.setIfInBounds_toArray, List.set_cons_zero, List.set_cons_succ]
          refine wpAnyH_ready (rs := [14]) (by kernel_rfl) (by simp) ?_
          refine AllReadyH.cons (o := ?r3_o5) ?r3_ho5 (fun K hK => ?r3_b5) AllReadyH.nil
          case r3_ho5 => (conv => lhs; whnf; arg 1; whnf)
          case' r3_b5 => skip
          go_simp
          refine hK.out _ _ ?r3_hS5 (fun hHeld5 => ?_)
          case r3_hS5 => exact FKO.out _ (by with_reducible repeat' (first | exact hE1 | exact hE0 | refine Ex.alloc ?_ _ | refine Ex.put ?_ (by omega) _))
          clear hK K hHeld4
          try simp only [Act.put, List.setIfInBounds_toArray, List.set_cons_zero, List.set_cons_succ]
          refine tk 15 ?_
          refine wpAnyH_done (by kernel_rfl) ?_ _
          clear hHeld5
          have HQ1 : Hid (FrM wf1 w.heap.size qm am) := zq (FrM.mono hfm (by first | omega | (simp; omega)))
          have HQ2 : Hid (Fr 4 wf1 w.heap.size Kq kq x.marks) := zq (HFK.out.ex hE1)
          have HQ3 : Hid (Blk wf1 gO 37 [.slice aq.b x.mach.table.buckets.length aq.bc, .slice aq.f x.mach.table.frames.length aq.fc, .slice aq.l x.mach.cache.lines.length aq.lc, .int .i64 x.mach.cache.hand, .int .i64 x.mach.tags.count, .int .i64 x.mach.tags.next, .int .i64 x.mach.tags.round, .slice aq.o x.mach.tags.owns.length aq.oc, .int .i64 x.mach.space, .slice Kq x.marks.length kq, .int .i64 x.hand]) := zq (HKO.out.ex hE1)
          have HQ4 : Hid (Blk wf1 (w.heap.size + 1) 37 [.slice none 0 0, .slice none 0 0, .slice none 0 0, .int .i64 0, .int .i64 0, .int .i64 0, .int .i64 0, .slice none 0 0, .int .i64 0, .slice none 0 0, .int .i64 0]) := zq (HKR.out.ex hE1)
          have HQ5 : Hid (Ex w wf1) := zq (HEX.out.trans hE1)
          clear hfm
          go_wp2_with fail
          go_meet
          exact ⟨wf1.heap.size, am, rfl, rfl, Blk.new _ _ _, (zf HQ3.out), ⟨HQ1.out.b.alloc _, HQ1.out.f.alloc _, HQ1.out.l.alloc _, HQ1.out.o.alloc _⟩, HQ2.out.alloc _, (ze HQ5.out), (zf HQ4.out), by omega⟩
        case r3_b3 =>
          go_simp
          refine hK.out _ _ ?r3_hS3 (fun hHeld3 => ?_)
          case r3_hS3 => exact FKO.out _ (by with_reducible repeat' (first | exact Ex.refl _ | exact hE1 | exact hE0 | refine Ex.alloc ?_ _ | refine Ex.drew ?_))
          clear hK K hHeld0
          try simp only [Act.put, List.setIfInBounds_toArray, List.set_cons_zero, List.set_cons_succ]
          refine wpAnyH_ready (rs := [9]) (by kernel_rfl) (by simp) ?_
          refine AllReadyH.cons (o := ?r3_o6) ?r3_ho6 (fun K hK => ?r3_b6) AllReadyH.nil
          case r3_ho6 => (conv => lhs; whnf; arg 1; whnf)
          case' r3_b6 => skip
          refine step_call_gu rfl CE1.out _ _ rfl #[.agg #[.slice aq.b x.mach.table.buckets.length aq.bc, .slice aq.f x.mach.table.frames.length aq.fc, .slice aq.l x.mach.cache.lines.length aq.lc, .int .i64 x.mach.cache.hand, .int .i64 x.mach.tags.count, .int .i64 x.mach.tags.next, .int .i64 x.mach.tags.round, .slice aq.o x.mach.tags.owns.length aq.oc, .int .i64 x.mach.space], .agg #[.int .i64 ky.space, .int .i64 ky.page], .int .i64 i, .int .i64 rights] rfl (CPP.out _ (HFM.out.has.ex (by with_reducible repeat' (first | exact Ex.refl _ | exact hE1 | exact hE0 | refine Ex.alloc ?_ _ | refine Ex.drew ?_)))) ?_; rintro r wf1 ⟨am, rfl, hfm, hb1⟩; refine ⟨_, rfl, ?_⟩; have hE1 : Ex w2 wf1 := Ex.trans (by with_reducible repeat' (first | exact Ex.refl _ | exact hE1 | exact hE0 | refine Ex.alloc ?_ _ | refine Ex.drew ?_)) hb1; have hz1 := hE1.size; have hy1 := hb1.size; have hB1 := Blk.ex (Blk.new wf0 34 [.slice none 0 0, .slice none 0 0, .slice none 0 0, .int .i64 0, .int .i64 0, .int .i64 0, .int .i64 0, .slice none 0 0, .int .i64 0]) hb1
          refine hK.out _ _ ?r3_hS6 (fun hHeld6 => ?_)
          case r3_hS6 => exact FKO.out _ hE1
          clear hK K hHeld3
          try simp only [Act.put, List.setIfInBounds_toArray, List.set_cons_zero, List.set_cons_succ]
          refine tk 10 ?_; refine tk 11 ?_; refine tk 12 ?_
          refine wpAnyH_ready (rs := [14]) (by kernel_rfl) (by simp) ?_
          refine AllReadyH.cons (o := ?r3_o7) ?r3_ho7 (fun K hK => ?r3_b7) AllReadyH.nil
          case r3_ho7 => (conv => lhs; whnf; arg 1; whnf)
          case' r3_b7 => skip
          obtain ⟨hr0, hr1, hr2, hr3, hr4, hr5, hr6, hr7, hr8⟩ := hB1.c9; have hrf := hB1.frozen; have hrl := hB1.lt; go_simp
          refine hK.out _ _ ?r3_hS7 (fun hHeld7 => ?_)
          case r3_hS7 => exact FKO.out _ (by with_reducible repeat' (first | exact hE1 | exact hE0 | refine Ex.alloc ?_ _ | refine Ex.put ?_ (by omega) _))
          clear hK K hHeld6
          try simp only [Act.put, List.setIfInBounds_toArray, List.set_cons_zero, List.set_cons_succ]
          refine tk 15 ?_
          refine wpAnyH_done (by kernel_rfl) ?_ _
          clear hHeld7
          have HQ1 : Hid (FrM wf1 w.heap.size qm am) := zq (FrM.mono hfm (by first | omega | (simp; omega)))
          have HQ2 : Hid (Fr 4 wf1 w.heap.size Kq kq x.marks) := zq (HFK.out.ex hE1)
          have HQ3 : Hid (Blk wf1 gO 37 [.slice aq.b x.mach.table.buckets.length aq.bc, .slice aq.f x.mach.table.frames.length aq.fc, .slice aq.l x.mach.cache.lines.length aq.lc, .int .i64 x.mach.cache.hand, .int .i64 x.mach.tags.count, .int .i64 x.mach.tags.next, .int .i64 x.mach.tags.round, .slice aq.o x.mach.tags.owns.length aq.oc, .int .i64 x.mach.space, .slice Kq x.marks.length kq, .int .i64 x.hand]) := zq (HKO.out.ex hE1)
          have HQ4 : Hid (Blk wf1 (w.heap.size + 1) 37 [.slice none 0 0, .slice none 0 0, .slice none 0 0, .int .i64 0, .int .i64 0, .int .i64 0, .int .i64 0, .slice none 0 0, .int .i64 0, .slice none 0 0, .int .i64 0]) := zq (HKR.out.ex hE1)
          have HQ5 : Hid (Ex w wf1) := zq (HEX.out.trans hE1)
          have HQ6 := zq hB1
          have HRa := zq (HQ1.out.b.off HQ6.out (by decide))
          have HRb := zq (HQ1.out.f.off HQ6.out (by decide))
          have HRc := zq (HQ1.out.l.off HQ6.out (by decide))
          have HRd := zq (HQ1.out.o.off HQ6.out (by decide))
          have HRe := zq (HQ2.out.off HQ6.out (by decide))
          clear hfm
          go_wp2_with fail
          go_meet
          exact ⟨wf0.heap.size, am, rfl, rfl, Blk.put9 HQ6.out, (zf HQ3.out), ⟨(zr HQ1.out.b HRa.out), (zr HQ1.out.f HRb.out), (zr HQ1.out.l HRc.out), (zr HQ1.out.o HRd.out)⟩, (zr HQ2.out HRe.out), (ze HQ5.out), (zf HQ4.out), by omega⟩
      case r3_b1 =>
        go_simp
        refine hK.out _ _ ?r3_hS1 (fun hHeld1 => ?_)
        case r3_hS1 => exact FKO.out _ (by with_reducible repeat' (first | exact Ex.refl _ | exact hE1 | exact hE0 | refine Ex.alloc ?_ _ | refine Ex.drew ?_))
        clear hK K hHeld
        try simp only [Act.put, List.setIfInBounds_toArray, List.set_cons_zero, List.set_cons_succ]
        refine wpAnyH_ready (rs := [6]) (by kernel_rfl) (by simp) ?_
        refine AllReadyH.cons (o := ?r3_o8) ?r3_ho8 (fun K hK => ?r3_b8) AllReadyH.nil
        case r3_ho8 => (conv => lhs; whnf; arg 1; whnf)
        case' r3_b8 => skip
        refine step_call_gu rfl CE0.out _ _ rfl #[.int .i64 x.mach.space, .int .i64 page] rfl (CKF.out _) ?_; rintro r wf0 ⟨rfl, hb0⟩; refine ⟨_, rfl, ?_⟩; have hE0 : Ex w2 wf0 := Ex.trans (by with_reducible repeat' (first | exact Ex.refl _ | exact hE1 | exact hE0 | refine Ex.alloc ?_ _ | refine Ex.drew ?_)) hb0; have hz0 := hE0.size; have hy0 := hb0.size; have hB0 := Blk.ex (Blk.new w2 34 [.slice none 0 0, .slice none 0 0, .slice none 0 0, .int .i64 0, .int .i64 0, .int .i64 0, .int .i64 0, .slice none 0 0, .int .i64 0]).drew hb0
        refine hK.out _ _ ?r3_hS8 (fun hHeld8 => ?_)
        case r3_hS8 => exact FKO.out _ hE0
        clear hK K hHeld1
        try simp only [Act.put, List.setIfInBounds_toArray, List.set_cons_zero, List.set_cons_succ]
        refine wpAnyH_ready (rs := [9]) (by kernel_rfl) (by simp) ?_
        refine AllReadyH.cons (o := ?r3_o9) ?r3_ho9 (fun K hK => ?r3_b9) AllReadyH.nil
        case r3_ho9 => (conv => lhs; whnf; arg 1; whnf)
        case' r3_b9 => skip
        refine step_call_gu rfl CE1.out _ _ rfl #[.agg #[.slice aq.b x.mach.table.buckets.length aq.bc, .slice aq.f x.mach.table.frames.length aq.fc, .slice aq.l x.mach.cache.lines.length aq.lc, .int .i64 x.mach.cache.hand, .int .i64 x.mach.tags.count, .int .i64 x.mach.tags.next, .int .i64 x.mach.tags.round, .slice aq.o x.mach.tags.owns.length aq.oc, .int .i64 x.mach.space], .agg #[.int .i64 ky.space, .int .i64 ky.page], .int .i64 i, .int .i64 rights] rfl (CPP.out _ (HFM.out.has.ex (by with_reducible repeat' (first | exact Ex.refl _ | exact hE1 | exact hE0 | refine Ex.alloc ?_ _ | refine Ex.drew ?_)))) ?_; rintro r wf1 ⟨am, rfl, hfm, hb1⟩; refine ⟨_, rfl, ?_⟩; have hE1 : Ex w2 wf1 := Ex.trans (by with_reducible repeat' (first | exact Ex.refl _ | exact hE1 | exact hE0 | refine Ex.alloc ?_ _ | refine Ex.drew ?_)) hb1; have hz1 := hE1.size; have hy1 := hb1.size; have hB1 := Blk.ex hB0 hb1
        refine hK.out _ _ ?r3_hS9 (fun hHeld9 => ?_)
        case r3_hS9 => exact FKO.out _ hE1
        clear hK K hHeld8
        try simp only [Act.put, List.setIfInBounds_toArray, List.set_cons_zero, List.set_cons_succ]
        refine tk 10 ?_; refine tk 11 ?_; refine tk 12 ?_
        refine wpAnyH_ready (rs := [14]) (by kernel_rfl) (by simp) ?_
        refine AllReadyH.cons (o := ?r3_o10) ?r3_ho10 (fun K hK => ?r3_b10) AllReadyH.nil
        case r3_ho10 => (conv => lhs; whnf; arg 1; whnf)
        case' r3_b10 => skip
        obtain ⟨hr0, hr1, hr2, hr3, hr4, hr5, hr6, hr7, hr8⟩ := hB1.c9; have hrf := hB1.frozen; have hrl := hB1.lt; go_simp
        refine hK.out _ _ ?r3_hS10 (fun hHeld10 => ?_)
        case r3_hS10 => exact FKO.out _ (by with_reducible repeat' (first | exact hE1 | exact hE0 | refine Ex.alloc ?_ _ | refine Ex.put ?_ (by omega) _))
        clear hK K hHeld9
        try simp only [Act.put, List.setIfInBounds_toArray, List.set_cons_zero, List.set_cons_succ]
        refine tk 15 ?_
        refine wpAnyH_done (by kernel_rfl) ?_ _
        clear hHeld10
        have HQ1 : Hid (FrM wf1 w.heap.size qm am) := zq (FrM.mono hfm (by first | omega | (simp; omega)))
        have HQ2 : Hid (Fr 4 wf1 w.heap.size Kq kq x.marks) := zq (HFK.out.ex hE1)
        have HQ3 : Hid (Blk wf1 gO 37 [.slice aq.b x.mach.table.buckets.length aq.bc, .slice aq.f x.mach.table.frames.length aq.fc, .slice aq.l x.mach.cache.lines.length aq.lc, .int .i64 x.mach.cache.hand, .int .i64 x.mach.tags.count, .int .i64 x.mach.tags.next, .int .i64 x.mach.tags.round, .slice aq.o x.mach.tags.owns.length aq.oc, .int .i64 x.mach.space, .slice Kq x.marks.length kq, .int .i64 x.hand]) := zq (HKO.out.ex hE1)
        have HQ4 : Hid (Blk wf1 (w.heap.size + 1) 37 [.slice none 0 0, .slice none 0 0, .slice none 0 0, .int .i64 0, .int .i64 0, .int .i64 0, .int .i64 0, .slice none 0 0, .int .i64 0, .slice none 0 0, .int .i64 0]) := zq (HKR.out.ex hE1)
        have HQ5 : Hid (Ex w wf1) := zq (HEX.out.trans hE1)
        have HQ6 := zq hB1
        have HRa := zq (HQ1.out.b.off HQ6.out (by decide))
        have HRb := zq (HQ1.out.f.off HQ6.out (by decide))
        have HRc := zq (HQ1.out.l.off HQ6.out (by decide))
        have HRd := zq (HQ1.out.o.off HQ6.out (by decide))
        have HRe := zq (HQ2.out.off HQ6.out (by decide))
        clear hfm
        go_wp2_with fail
        go_meet
        exact ⟨w2.heap.size, am, rfl, rfl, Blk.put9 HQ6.out, (zf HQ3.out), ⟨(zr HQ1.out.b HRa.out), (zr HQ1.out.f HRb.out), (zr HQ1.out.l HRc.out), (zr HQ1.out.o HRd.out)⟩, (zr HQ2.out HRe.out), (ze HQ5.out), (zf HQ4.out), by omega⟩
    case rest =>
      obtain ⟨gM, am, rfl, rfl, hkm, hko, hfm, hkf, hex, hkr, hgm⟩ := hcut
      have KM := zq hkm; have KO := zq hko; have KR := zq hkr
      have FM := zq hfm; have FK := zq hkf; have EX := zq hex
      clear hkm hko hfm hkf hex hkr HKO HFM HFK HEX HKR FKO CPP CKF
      obtain ⟨m0, m1, m2, m3, m4, m5, m6, m7, m8⟩ := KM.out.c9
      have ml := KM.out.lt
      obtain ⟨o0, o1, o2, o3, o4, o5, o6, o7, o8, o9, o10⟩ := KO.out.c11
      have oz := KO.out.frozen; have ol := KO.out.lt
      obtain ⟨r0, r1, r2, r3, r4, r5, r6, r7, r8, r9, r10⟩ := KR.out.c11
      have rz := KR.out.frozen; have rl := KR.out.lt
      have hgR : ¬ gO = w.heap.size + 1 := by omega
      have hgR2 : ¬ w.heap.size + 1 = gO := by omega
      have hgM1 : ¬ gM = gO := by omega
      have hgM2 : ¬ gO = gM := by omega
      have HOa := zq (FM.out.b.off KO.out (by decide)); have HRa := zq (FM.out.b.off KR.out (by decide))
      have HOb := zq (FM.out.f.off KO.out (by decide)); have HRb := zq (FM.out.f.off KR.out (by decide))
      have HOc := zq (FM.out.l.off KO.out (by decide)); have HRc := zq (FM.out.l.off KR.out (by decide))
      have HOd := zq (FM.out.o.off KO.out (by decide)); have HRd := zq (FM.out.o.off KR.out (by decide))
      have HOe := zq (FK.out.off KO.out (by decide)); have HRe := zq (FK.out.off KR.out (by decide))
      go_wp2
      exact bodyPost_ret (v := .tuple #[.agg #[.slice am.b qm.table.buckets.length am.bc, .slice am.f qm.table.frames.length am.fc, .slice am.l qm.cache.lines.length am.lc, .int .i64 qm.cache.hand, .int .i64 qm.tags.count, .int .i64 qm.tags.next, .int .i64 qm.tags.round, .slice am.o qm.tags.owns.length am.oc, .int .i64 qm.space, .slice Kq x.marks.length kq, .int .i64 x.hand], .bool true]) (by simp [results, Tryz.results97, go_sem, *]) rfl
        ⟨⟨qm, x.marks, x.hand⟩, true, am, Kq, kq, rfl, fun _ => HFIN.out, ⟨⟨(zt FM.out.b HOa.out HRa.out), (zt FM.out.f HOb.out HRb.out), (zt FM.out.l HOc.out HRc.out), (zt FM.out.o HOd.out HRd.out)⟩, (zt FK.out HOe.out HRe.out)⟩, (ze EX.out)⟩
  · -- no frame is free: the clock chooses one
    have C3 := zq (fun w' (e1 : Ex w w') => clockS_c x a K kc w' h (hx.ex e1) hc hk hkk)
    unfold Clocked at C3
    rw [hfr] at C2
    have HH := zq h
    have HP := zq hr
    have HKO1 := zq hko; have HKA := zq hka; have HNN := zq hn
    clear hfr hx hc hk hkk h hky hn hp hr hka hko
    go_enter Tryz.func97, Tryz.ntmps97
    go_wp2_with fail
    refine name_calls ?_; intro v1 hv1
    have X1 : Hid (Chg (0) (0) w v1) := zx hv1
    have t1 := X1.out.size
    have Ev1 := zq ((Ex.refl w).chg X1.out (by omega))
    have KX : Hid (Blk v1 (w.heap.size) 37 [.slice a.b x.mach.table.buckets.length a.bc, .slice a.f x.mach.table.frames.length a.fc, .slice a.l x.mach.cache.lines.length a.lc, .int .i64 x.mach.cache.hand, .int .i64 x.mach.tags.count, .int .i64 x.mach.tags.next, .int .i64 x.mach.tags.round, .slice a.o x.mach.tags.owns.length a.oc, .int .i64 x.mach.space, .slice K x.marks.length kc, .int .i64 x.hand]) := zk hv1
    have lX : w.heap.size < v1.heap.size := KX.out.lt
    have KR : Hid (Blk v1 (w.heap.size + 1) 37 [.slice none 0 0, .slice none 0 0, .slice none 0 0, .int .i64 0, .int .i64 0, .int .i64 0, .int .i64 0, .slice none 0 0, .int .i64 0, .slice none 0 0, .int .i64 0]) := zk hv1
    have lR : w.heap.size + 1 < v1.heap.size := KR.out.lt
    clear hv1
    refine (C1.out _ Ev1.out).mono ?_; rintro r w1 ⟨a1, K1, k1, rfl, hhf1, hb1⟩
    have Y1 := zq (Chg.of_ex hb1)
    have s1 := Y1.out.size
    have Ew1 := zq (Ev1.out.chg Y1.out (by omega))
    clear hb1
    replace KX := zq (KX.out.chg Y1.out (by omega))
    replace KR := zq (KR.out.chg Y1.out (by omega))
    have HHF1 := zq hhf1; clear hhf1
    obtain ⟨qX0, qX1, qX2, qX3, qX4, qX5, qX6, qX7, qX8, qX9, qX10⟩ := KX.out.c11
    have jX := KX.out.lt
    obtain ⟨qR0, qR1, qR2, qR3, qR4, qR5, qR6, qR7, qR8, qR9, qR10⟩ := KR.out.c11
    have jR := KR.out.lt
    have zR := KR.out.frozen
    go_wp2_with fail
    refine name_calls ?_; intro v2 hv2
    have X2 : Hid (Chg (0) (0) w1 v2) := zx hv2
    have t2 := X2.out.size
    have Ev2 := zq (Ew1.out.chg X2.out (by omega))
    clear qX0 qX1 qX2 qX3 qX4 qX5 qX6 qX7 qX8 qX9 qX10 jX
    clear qR0 qR1 qR2 qR3 qR4 qR5 qR6 qR7 qR8 qR9 qR10 jR zR
    replace KX := zq (KX.out.chg X2.out (by omega))
    replace KR := zq (KR.out.chg X2.out (by omega))
    have KO : Hid (Blk v2 (w1.heap.size) 37 [.slice a1.b x.mach.table.buckets.length a1.bc, .slice a1.f x.mach.table.frames.length a1.fc, .slice a1.l x.mach.cache.lines.length a1.lc, .int .i64 x.mach.cache.hand, .int .i64 x.mach.tags.count, .int .i64 x.mach.tags.next, .int .i64 x.mach.tags.round, .slice a1.o x.mach.tags.owns.length a1.oc, .int .i64 x.mach.space, .slice K1 x.marks.length k1, .int .i64 x.hand]) := zk hv2
    have lO : w1.heap.size < v2.heap.size := KO.out.lt
    clear hv2
    refine (C2.out _ Ev2.out).mono ?_; rintro r w2 ⟨rfl, hb2⟩
    have Y2 := zq (Chg.of_ex hb2)
    have s2 := Y2.out.size
    have Ew2 := zq (Ev2.out.chg Y2.out (by omega))
    clear hb2
    replace KX := zq (KX.out.chg Y2.out (by omega))
    replace KR := zq (KR.out.chg Y2.out (by omega))
    replace KO := zq (KO.out.chg Y2.out (by omega))
    obtain ⟨qX0, qX1, qX2, qX3, qX4, qX5, qX6, qX7, qX8, qX9, qX10⟩ := KX.out.c11
    have jX := KX.out.lt
    obtain ⟨qR0, qR1, qR2, qR3, qR4, qR5, qR6, qR7, qR8, qR9, qR10⟩ := KR.out.c11
    have jR := KR.out.lt
    have zR := KR.out.frozen
    obtain ⟨qO0, qO1, qO2, qO3, qO4, qO5, qO6, qO7, qO8, qO9, qO10⟩ := KO.out.c11
    have jO := KO.out.lt
    have zO := KO.out.frozen
    go_wp2_with fail
    refine name_calls ?_; intro v3 hv3
    have X3 : Hid (Chg (0) (0) w2 v3) := zx hv3
    have t3 := X3.out.size
    have Ev3 := zq (Ew2.out.chg X3.out (by omega))
    clear qX0 qX1 qX2 qX3 qX4 qX5 qX6 qX7 qX8 qX9 qX10 jX
    clear qR0 qR1 qR2 qR3 qR4 qR5 qR6 qR7 qR8 qR9 qR10 jR zR
    clear qO0 qO1 qO2 qO3 qO4 qO5 qO6 qO7 qO8 qO9 qO10 jO zO
    replace KX := zq (KX.out.chg X3.out (by omega))
    replace KR := zq (KR.out.chg X3.out (by omega))
    replace KO := zq (KO.out.chg X3.out (by omega))
    clear hv3
    refine (C3.out _ Ev3.out).mono ?_; rintro r w3 ⟨ks, hd, at3, ⟨A3, c3, B3, d3, L3, e3, O3, g3⟩, K3, k3, rfl, hhls, hhlt, hhor, hhe3, hb3⟩
    have Y3 := zq (Chg.of_ex hb3)
    have s3 := Y3.out.size
    have Ew3 := zq (Ev3.out.chg Y3.out (by omega))
    clear hb3
    replace KX := zq (KX.out.chg Y3.out (by omega))
    replace KR := zq (KR.out.chg Y3.out (by omega))
    replace KO := zq (KO.out.chg Y3.out (by omega))
    have HHLS := zq hhls; clear hhls
    have HHLT := zq hhlt; clear hhlt
    have HHOR := zq hhor; clear hhor
    have HHE3 := zq hhe3; clear hhe3
    obtain ⟨qX0, qX1, qX2, qX3, qX4, qX5, qX6, qX7, qX8, qX9, qX10⟩ := KX.out.c11
    have jX := KX.out.lt
    obtain ⟨qR0, qR1, qR2, qR3, qR4, qR5, qR6, qR7, qR8, qR9, qR10⟩ := KR.out.c11
    have jR := KR.out.lt
    have zR := KR.out.frozen
    obtain ⟨qO0, qO1, qO2, qO3, qO4, qO5, qO6, qO7, qO8, qO9, qO10⟩ := KO.out.c11
    have jO := KO.out.lt
    have zO := KO.out.frozen
    obtain ⟨gO, hgO⟩ : ∃ gO, gO = w1.heap.size := ⟨_, rfl⟩
    rw [← hgO] at KO lO jO qO0 qO1 qO2 qO3 qO4 qO5 qO6 qO7 qO8 qO9 qO10 zO ⊢
    have hOR : w.heap.size + 1 < gO := by omega
    have hOv : gO < v3.heap.size := by omega
    have hgR : ¬ gO = w.heap.size + 1 := by omega
    have hgR2 : ¬ w.heap.size + 1 = gO := by omega
    clear hgO HHF1
    rcases HHOR.out with rfl | ⟨i, f, rfl, hf, hu⟩
    · clear HHOR HHLS HHLT HHE3
      go_wp2
      exact bodyPost_ret (v := .tuple #[.agg #[.slice none 0 0, .slice none 0 0, .slice none 0 0, .int .i64 0, .int .i64 0, .int .i64 0, .int .i64 0, .slice none 0 0, .int .i64 0, .slice none 0 0, .int .i64 0], .bool false]) (by simp [results, Tryz.results97, go_sem, *]) rfl
        ⟨noMem, false, ⟨none, 0, none, 0, none, 0, none, 0⟩, none, 0, rfl, (fun h => by cases h), ⟨⟨Fr.none_ _ _ _ _, Fr.none_ _ _ _ _, Fr.none_ _ _ _ _, Fr.none_ _ _ _ _⟩, Fr.none_ _ _ _ _⟩, (ze Ew3.out)⟩
    have hfl := getElem?_lt hf
    have hkl : ks.length = x.mach.table.frames.length := by rw [HHLS.out.len]; exact HH.out.2.1
    have h1 : MemOk ⟨x.mach, ks, (hd : Int)⟩ := HH.out.less HHLS.out ⟨by omega, by have := HHLT.out; omega⟩
    obtain ⟨t1, t2, t3, t4, t5, t6, t7⟩ := h1.take hf hu
    try dsimp only at t3 t4 t5 t6 t7
    obtain ⟨tm, htm⟩ : ∃ tm, takeM x.mach f.key = (tm, true) := ⟨_, by rw [← t3]⟩
    rw [htm] at t4 t5 t6 t7
    try dsimp only at t4 t5 t6 t7
    have hN2 : findF tm.table ky < 0 := t7 ky HNN.out
    have hka2 : keyFor ky.space ky.page = ky := HKA.out
    obtain ⟨p1, p2, p3, p4, p5⟩ := t4.put (rt := rights) HKO1.out hka2 HP.out t5 rfl hN2
    try dsimp only at p1 p2 p3 p4 p5
    obtain ⟨qm, hqm⟩ : ∃ qm, putM tm ky i rights = (qm, true) := ⟨_, by rw [← p1]⟩
    rw [hqm] at p2 p3 p4 p5
    try dsimp only at p2 p3 p4 p5
    have HQL : Hid (tm.table.frames.length = x.mach.table.frames.length) := zq (by
      have e1 := t4.2.1
      simp only [List.length_set] at e1
      omega)
    have CPP := zq (fun (aq : MA) w' (h1 : HasM w' tm aq) (h2 : CapM tm aq) (h3 : CapX aq) => putS_c tm aq ky i rights w' t4.1 h1 h2 h3 HKO1.out hka2 HP.out (by rw [HQL.out]; exact hfl))
    rw [hqm] at CPP
    unfold MachOr at CPP
    dsimp only at CPP
    have CTK := zq (fun w' (h2 : HasM w' x.mach ⟨A3, c3, B3, d3, L3, e3, O3, g3⟩) => takeS_c x.mach ⟨A3, c3, B3, d3, L3, e3, O3, g3⟩ f.key w' HH.out.1 h2 HHE3.out.m.cap HHE3.out.m.capx t1)
    rw [htm] at CTK
    unfold MachOr at CTK
    dsimp only at CTK
    have HFIN : Hid (MemOk ⟨qm, ks.set i false, (hd : Int)⟩ ∧ 0 ≤ findF qm.table (keyFor qm.space page)) := zq ⟨p2, by rw [p4, t6, ← HKY.out, p3]; omega⟩
    have HSP : Hid (tm.space = x.mach.space) := zq t6
    have hHM := HHE3.out.m
    have hHK := HHE3.out.k
    obtain ⟨b2, rs2, rfl, hBb, hbf, hrs2⟩ := hHM.f.open_ (k := i) hfl
    obtain ⟨gK, rs3, rfl, hBk, hbk, hrs3⟩ := hHK.open_ (k := i) (show i < ks.length by omega)
    have hk3l : ks.length ≤ k3 := hHK.le
    have hk3m := hHK.cap
    obtain ⟨f0, f1, f2, f3, f4⟩ := hbf.frame hf
    have hd3p : 0 < d3 := by have := hHM.f.le; dsimp only at this; omega
    have hb2O : ¬ b2 = gO := (hHM.f.off KO.out (by decide)) b2 (rowOf_some hd3p)
    have hb2K : ¬ b2 = gK := (hHM.f.off hbk (by decide)) b2 (rowOf_some hd3p)
    have hgKO : ¬ gO = gK := by omega
    have hgKO2 : ¬ gK = gO := by omega
    have hgKR : ¬ w.heap.size + 1 = gK := by omega
    have gKl := Blk.lt hbk
    have gKz := hbk.frozen i
    obtain ⟨vK, hvK⟩ : ∃ v, ks[i]? = some v := ⟨_, List.getElem?_eq_getElem (by omega)⟩
    have gKc := hbk.bool hvK
    have hin : (i : Int) < (ks.length : Int) := by omega
    have hin2 : (i : Int) < (x.mach.table.frames.length : Int) := by omega
    have hi0 : ¬ (i : Int) < 0 := by omega
    have HKL := zq hkl; clear hkl
    have HHM := zq hHM; have HBF := zq hbf; have HBK := zq hbk; have HRS3 := zq hrs3; have HF := zq hf
    clear hHM hHK hbf hbk hrs2 hrs3 hvK hf hu h1 t1 t2 t3 t4 t5 t6 t7 htm hqm p1 p2 p3 p4 p5 hN2 hka2 HHOR HHLT HHLS HHE3 HH HP HKO1 HKA HNN f0 f1 f2 f3 f4
    go_wp2_with fail
    refine name_code ?_
    intro w8 hw8
    have HW8 := zq hw8
    clear hw8
    have HKO : Hid (Blk w8 gO 37 [.slice A3 x.mach.table.buckets.length c3, .slice (some ⟨b2, 0, none⟩) x.mach.table.frames.length d3, .slice L3 x.mach.cache.lines.length e3, .int .i64 x.mach.cache.hand, .int .i64 x.mach.tags.count, .int .i64 x.mach.tags.next, .int .i64 x.mach.tags.round, .slice O3 x.mach.tags.owns.length g3, .int .i64 x.mach.space, .slice (some ⟨gK, 0, none⟩) ks.length k3, .int .i64 hd]) := zq (by rw [HW8.out]; exact (Blk.put11 KO.out).far hgKO _)
    have HKR : Hid (Blk w8 (w.heap.size + 1) 37 [.slice none 0 0, .slice none 0 0, .slice none 0 0, .int .i64 0, .int .i64 0, .int .i64 0, .int .i64 0, .slice none 0 0, .int .i64 0, .slice none 0 0, .int .i64 0]) := zq (by rw [HW8.out]; exact (zf KR.out))
    have HBK8 : Hid (Bk 4 w8 gK (ks.set i false) rs3) := zq (by rw [HW8.out]; exact Bk.set_bool (by with_reducible repeat' (first | exact HBK.out | refine Bk.far ?_ (by first | (simp; done) | (simp; omega)) _)) false (by have := HKL.out; omega))
    have HBF8 : Hid (Bk 45 w8 b2 x.mach.table.frames rs2) := zq (by rw [HW8.out]; exact (by with_reducible repeat' (first | exact HBF.out | refine Bk.far ?_ (by first | (simp; done) | (simp; omega)) _)))
    have HOa := zq (HHM.out.b.off KO.out (by decide)); have HKa := zq (HHM.out.b.off HBK.out (by decide))
    have HOb := zq (HHM.out.f.off KO.out (by decide)); have HKb := zq (HHM.out.f.off HBK.out (by decide))
    have HOc := zq (HHM.out.l.off KO.out (by decide)); have HKc := zq (HHM.out.l.off HBK.out (by decide))
    have HOd := zq (HHM.out.o.off KO.out (by decide)); have HKd := zq (HHM.out.o.off HBK.out (by decide))
    have HFM : Hid (FrM w8 v3.heap.size x.mach ⟨A3, c3, some ⟨b2, 0, none⟩, d3, L3, e3, O3, g3⟩) := zq (by rw [HW8.out]; exact ⟨(zt HHM.out.b HOa.out HKa.out), (zt HHM.out.f HOb.out HKb.out), (zt HHM.out.l HOc.out HKc.out), (zt HHM.out.o HOd.out HKd.out)⟩)
    have HEX : Hid (Ex w w8) := zq (by rw [HW8.out]; exact (ze Ew3.out))
    have HFK : Hid (Fr 4 w8 w.heap.size (some ⟨gK, 0, none⟩) k3 (ks.set i false)) := zq (Fr.close HBK8.out (by omega) (by rw [List.length_set]; exact HRS3.out) (by rw [List.length_set]; exact hk3l) hk3m)
    clear KO KR HBK HBK8 HRS3 HHM HBF gKc gKz gKl HOa HKa HOb HKb HOc HKc HOd HKd qO0 qO1 qO2 qO3 qO4 qO5 qO6 qO7 qO8 qO9 qO10 zO jO lO qR0 qR1 qR2 qR3 qR4 qR5 qR6 qR7 qR8 qR9 qR10 zR jR C1 C2 C3
    have FK8 : Hid (∀ w', Ex w8 w' → ((w'.cell? ⟨gO, 0, none⟩ = some (.slice A3 x.mach.table.buckets.length c3) ∧ w'.cell? ⟨gO, 1, none⟩ = some (.slice (some ⟨b2, 0, none⟩) x.mach.table.frames.length d3) ∧ w'.cell? ⟨gO, 2, none⟩ = some (.slice L3 x.mach.cache.lines.length e3) ∧ w'.cell? ⟨gO, 3, none⟩ = some (.int .i64 x.mach.cache.hand) ∧ w'.cell? ⟨gO, 4, none⟩ = some (.int .i64 x.mach.tags.count) ∧ w'.cell? ⟨gO, 5, none⟩ = some (.int .i64 x.mach.tags.next) ∧ w'.cell? ⟨gO, 6, none⟩ = some (.int .i64 x.mach.tags.round) ∧ w'.cell? ⟨gO, 7, none⟩ = some (.slice O3 x.mach.tags.owns.length g3) ∧ w'.cell? ⟨gO, 8, none⟩ = some (.int .i64 x.mach.space) ∧ w'.cell? ⟨gO, 9, none⟩ = some (.slice (some ⟨gK, 0, none⟩) ks.length k3) ∧ w'.cell? ⟨gO, 10, none⟩ = some (.int .i64 hd)) ∧ w'.cell? ⟨b2, i * 5 + 1, none⟩ = some (.int .i64 f.key.space) ∧ w'.cell? ⟨b2, i * 5 + 2, none⟩ = some (.int .i64 f.key.page))) := zq (fun w' h => ⟨(HKO.out.ex h).c11, ((HBF8.out.ex h).frame HF.out).2.1, ((HBF8.out.ex h).frame HF.out).2.2.1⟩)
    have hjO : gO < w8.heap.size := HKO.out.lt
    have hjw : w.heap.size ≤ w8.heap.size := HEX.out.size
    have CET : Hid (∀ (args : Array Value) (w : World), (callFunc 94 args).run Tryz.prog w = .ok (.enter 94 args) w) := zq (enters Tryz.func94 (by kernel_rfl) (by kernel_rfl))
    go_cut [10, 11] (fun s t wx => ∃ (gM : Nat) (aq : MA), s = .pointer (some ⟨gM, 0, none⟩) ∧ t = .bool true ∧ Blk wx gM 34 [.slice aq.b tm.table.buckets.length aq.bc, .slice aq.f tm.table.frames.length aq.fc, .slice aq.l tm.cache.lines.length aq.lc, .int .i64 tm.cache.hand, .int .i64 tm.tags.count, .int .i64 tm.tags.next, .int .i64 tm.tags.round, .slice aq.o tm.tags.owns.length aq.oc, .int .i64 tm.space] ∧ Blk wx gO 37 [.slice A3 x.mach.table.buckets.length c3, .slice (some ⟨b2, 0, none⟩) x.mach.table.frames.length d3, .slice L3 x.mach.cache.lines.length e3, .int .i64 x.mach.cache.hand, .int .i64 x.mach.tags.count, .int .i64 x.mach.tags.next, .int .i64 x.mach.tags.round, .slice O3 x.mach.tags.owns.length g3, .int .i64 x.mach.space, .slice (some ⟨gK, 0, none⟩) ks.length k3, .int .i64 hd] ∧ FrM wx w.heap.size tm aq ∧ Fr 4 wx w.heap.size (some ⟨gK, 0, none⟩) k3 (ks.set i false) ∧ Ex w wx ∧ Blk wx (w.heap.size + 1) 37 [.slice none 0 0, .slice none 0 0, .slice none 0 0, .int .i64 0, .int .i64 0, .int .i64 0, .int .i64 0, .slice none 0 0, .int .i64 0, .slice none 0 0, .int .i64 0] ∧ gO < gM)
    case first =>
      refine wp_region_held_drew (S := (fun w' => ((w'.cell? ⟨gO, 0, none⟩ = some (.slice A3 x.mach.table.buckets.length c3) ∧ w'.cell? ⟨gO, 1, none⟩ = some (.slice (some ⟨b2, 0, none⟩) x.mach.table.frames.length d3) ∧ w'.cell? ⟨gO, 2, none⟩ = some (.slice L3 x.mach.cache.lines.length e3) ∧ w'.cell? ⟨gO, 3, none⟩ = some (.int .i64 x.mach.cache.hand) ∧ w'.cell? ⟨gO, 4, none⟩ = some (.int .i64 x.mach.tags.count) ∧ w'.cell? ⟨gO, 5, none⟩ = some (.int .i64 x.mach.tags.next) ∧ w'.cell? ⟨gO, 6, none⟩ = some (.int .i64 x.mach.tags.round) ∧ w'.cell? ⟨gO, 7, none⟩ = some (.slice O3 x.mach.tags.owns.length g3) ∧ w'.cell? ⟨gO, 8, none⟩ = some (.int .i64 x.mach.space) ∧ w'.cell? ⟨gO, 9, none⟩ = some (.slice (some ⟨gK, 0, none⟩) ks.length k3) ∧ w'.cell? ⟨gO, 10, none⟩ = some (.int .i64 hd)) ∧ w'.cell? ⟨b2, i * 5 + 1, none⟩ = some (.int .i64 f.key.space) ∧ w'.cell? ⟨b2, i * 5 + 2, none⟩ = some (.int .i64 f.key.page)))) (by kernel_rfl) ?r1_hS0 (fun hHeld => ?_)
      case r1_hS0 => exact FK8.out _ (Ex.refl _).drew
      refine tk 0 ?_; refine tk 1 ?_; refine tk 2 ?_; refine tk 3 ?_; refine tk 4 ?_; refine tk 5 ?_; refine tk 6 ?_; refine tk 7 ?_; refine tk 8 ?_; refine tk 9 ?_
      refine wpAnyH_ready (rs := [10, 14]) (by kernel_rfl) (by simp) ?_
      refine AllReadyH.cons (o := ?r1_o0) ?r1_ho0 (fun K hK => ?r1_b0) (AllReadyH.cons (o := ?r1_o1) ?r1_ho1 (fun K hK => ?r1_b1) AllReadyH.nil)
      case r1_ho0 => (conv => lhs; whnf; arg 1; whnf)
      case r1_ho1 => (conv => lhs; whnf; arg 1; whnf)
      case r1_b0 =>
        refine step_call_gu rfl CET.out _ _ rfl #[.agg #[.slice A3 x.mach.table.buckets.length c3, .slice (some ⟨b2, 0, none⟩) x.mach.table.frames.length d3, .slice L3 x.mach.cache.lines.length e3, .int .i64 x.mach.cache.hand, .int .i64 x.mach.tags.count, .int .i64 x.mach.tags.next, .int .i64 x.mach.tags.round, .slice O3 x.mach.tags.owns.length g3, .int .i64 x.mach.space], .agg #[.int .i64 f.key.space, .int .i64 f.key.page]] rfl (CTK.out _ (HFM.out.has.ex (by with_reducible repeat' (first | exact Ex.refl _ | exact hE0 | refine Ex.alloc ?_ _ | refine Ex.drew ?_)))) ?_; rintro r wf0 ⟨aq, rfl, hfm, hb0⟩; refine ⟨_, rfl, ?_⟩; have hE0 : Ex w8 wf0 := Ex.trans (by with_reducible repeat' (first | exact Ex.refl _ | exact hE0 | refine Ex.alloc ?_ _ | refine Ex.drew ?_)) hb0; have hz0 := hE0.size; have hy0 := hb0.size
        refine hK.out _ _ ?r1_hS0 (fun hHeld0 => ?_)
        case r1_hS0 => exact FK8.out _ hE0
        clear hK K hHeld
        try simp only [Act.put, List.setIfInBounds_toArray, List.set_cons_zero, List.set_cons_succ]
        refine tk 11 ?_; refine tk 12 ?_; refine tk 13 ?_
        refine wpAnyH_ready (rs := [14]) (by kernel_rfl) (by simp) ?_
        refine AllReadyH.cons (o := ?r1_o2) ?r1_ho2 (fun K hK => ?r1_b2) AllReadyH.nil
        case r1_ho2 => (conv => lhs; whnf; arg 1; whnf)
        case' r1_b2 => skip
        go_simp
        refine hK.out _ _ ?r1_hS2 (fun hHeld2 => ?_)
        case r1_hS2 => exact FK8.out _ (by with_reducible repeat' (first | exact Ex.refl _ | exact hE0 | refine Ex.alloc ?_ _ | refine Ex.drew ?_))
        clear hK K hHeld0
        try simp only [Act.put, List.setIfInBounds_toArray, List.set_cons_zero, List.set_cons_succ]
        refine wpAnyH_ready (rs := [15]) (by kernel_rfl) (by simp) ?_
        refine AllReadyH.cons (o := ?r1_o3) ?r1_ho3 (fun K hK => ?r1_b3) AllReadyH.nil
        case r1_ho3 => (conv => lhs; whnf; arg 1; whnf)
        case' r1_b3 => skip
        go_simp
        refine hK.out _ _ ?r1_hS3 (fun hHeld3 => ?_)
        case r1_hS3 => exact FK8.out _ (ze hE0)
        clear hK K hHeld2
        try simp only [Act.put, List.setIfInBounds_toArray, List.set_cons_zero, List.set_cons_succ]
        refine tk 16 ?_
        refine wpAnyH_done (by kernel_rfl) ?_ _
        clear hHeld3
        have HQ1 : Hid (FrM wf0 w.heap.size tm aq) := zq (FrM.mono hfm (by first | omega | (simp; omega)))
        have HQ2 : Hid (Fr 4 wf0 w.heap.size (some ⟨gK, 0, none⟩) k3 (ks.set i false)) := zq (HFK.out.ex hE0)
        have HQ3 : Hid (Blk wf0 gO 37 [.slice A3 x.mach.table.buckets.length c3, .slice (some ⟨b2, 0, none⟩) x.mach.table.frames.length d3, .slice L3 x.mach.cache.lines.length e3, .int .i64 x.mach.cache.hand, .int .i64 x.mach.tags.count, .int .i64 x.mach.tags.next, .int .i64 x.mach.tags.round, .slice O3 x.mach.tags.owns.length g3, .int .i64 x.mach.space, .slice (some ⟨gK, 0, none⟩) ks.length k3, .int .i64 hd]) := zq (HKO.out.ex hE0)
        have HQ4 : Hid (Blk wf0 (w.heap.size + 1) 37 [.slice none 0 0, .slice none 0 0, .slice none 0 0, .int .i64 0, .int .i64 0, .int .i64 0, .int .i64 0, .slice none 0 0, .int .i64 0, .slice none 0 0, .int .i64 0]) := zq (HKR.out.ex hE0)
        have HQ5 : Hid (Ex w wf0) := zq (HEX.out.trans hE0)
        clear hfm
        go_wp2_with fail
        go_meet
        exact ⟨wf0.heap.size, aq, rfl, rfl, Blk.new _ _ _, (zf HQ3.out), ⟨HQ1.out.b.alloc _, HQ1.out.f.alloc _, HQ1.out.l.alloc _, HQ1.out.o.alloc _⟩, HQ2.out.alloc _, (ze HQ5.out), (zf HQ4.out), by omega⟩
      case r1_b1 =>
        go_simp
        refine hK.out _ _ ?r1_hS1 (fun hHeld1 => ?_)
        case r1_hS1 => exact FK8.out _ (by with_reducible repeat' (first | exact Ex.refl _ | exact hE0 | refine Ex.alloc ?_ _ | refine Ex.drew ?_))
        clear hK K hHeld
        try simp only [Act.put, List.setIfInBounds_toArray, List.set_cons_zero, List.set_cons_succ]
        refine wpAnyH_ready (rs := [10]) (by kernel_rfl) (by simp) ?_
        refine AllReadyH.cons (o := ?r1_o4) ?r1_ho4 (fun K hK => ?r1_b4) AllReadyH.nil
        case r1_ho4 => (conv => lhs; whnf; arg 1; whnf)
        case' r1_b4 => skip
        refine step_call_gu rfl CET.out _ _ rfl #[.agg #[.slice A3 x.mach.table.buckets.length c3, .slice (some ⟨b2, 0, none⟩) x.mach.table.frames.length d3, .slice L3 x.mach.cache.lines.length e3, .int .i64 x.mach.cache.hand, .int .i64 x.mach.tags.count, .int .i64 x.mach.tags.next, .int .i64 x.mach.tags.round, .slice O3 x.mach.tags.owns.length g3, .int .i64 x.mach.space], .agg #[.int .i64 f.key.space, .int .i64 f.key.page]] rfl (CTK.out _ (HFM.out.has.ex (by with_reducible repeat' (first | exact Ex.refl _ | exact hE0 | refine Ex.alloc ?_ _ | refine Ex.drew ?_)))) ?_; rintro r wf0 ⟨aq, rfl, hfm, hb0⟩; refine ⟨_, rfl, ?_⟩; have hE0 : Ex w8 wf0 := Ex.trans (by with_reducible repeat' (first | exact Ex.refl _ | exact hE0 | refine Ex.alloc ?_ _ | refine Ex.drew ?_)) hb0; have hz0 := hE0.size; have hy0 := hb0.size; have hB0 := Blk.ex (Blk.new w8 34 [.slice none 0 0, .slice none 0 0, .slice none 0 0, .int .i64 0, .int .i64 0, .int .i64 0, .int .i64 0, .slice none 0 0, .int .i64 0]).drew hb0
        refine hK.out _ _ ?r1_hS4 (fun hHeld4 => ?_)
        case r1_hS4 => exact FK8.out _ hE0
        clear hK K hHeld1
        try simp only [Act.put, List.setIfInBounds_toArray, List.set_cons_zero, List.set_cons_succ]
        refine tk 11 ?_; refine tk 12 ?_; refine tk 13 ?_
        refine wpAnyH_ready (rs := [15]) (by kernel_rfl) (by simp) ?_
        refine AllReadyH.cons (o := ?r1_o5) ?r1_ho5 (fun K hK => ?r1_b5) AllReadyH.nil
        case r1_ho5 => (conv => lhs; whnf; arg 1; whnf)
        case' r1_b5 => skip
        obtain ⟨hr0, hr1, hr2, hr3, hr4, hr5, hr6, hr7, hr8⟩ := hB0.c9; have hrf := hB0.frozen; have hrl := hB0.lt; go_simp
        refine hK.out _ _ ?r1_hS5 (fun hHeld5 => ?_)
        case r1_hS5 => exact FK8.out _ (ze hE0)
        clear hK K hHeld4
        try simp only [Act.put, List.setIfInBounds_toArray, List.set_cons_zero, List.set_cons_succ]
        refine tk 16 ?_
        refine wpAnyH_done (by kernel_rfl) ?_ _
        clear hHeld5
        have HQ1 : Hid (FrM wf0 w.heap.size tm aq) := zq (FrM.mono hfm (by first | omega | (simp; omega)))
        have HQ2 : Hid (Fr 4 wf0 w.heap.size (some ⟨gK, 0, none⟩) k3 (ks.set i false)) := zq (HFK.out.ex hE0)
        have HQ3 : Hid (Blk wf0 gO 37 [.slice A3 x.mach.table.buckets.length c3, .slice (some ⟨b2, 0, none⟩) x.mach.table.frames.length d3, .slice L3 x.mach.cache.lines.length e3, .int .i64 x.mach.cache.hand, .int .i64 x.mach.tags.count, .int .i64 x.mach.tags.next, .int .i64 x.mach.tags.round, .slice O3 x.mach.tags.owns.length g3, .int .i64 x.mach.space, .slice (some ⟨gK, 0, none⟩) ks.length k3, .int .i64 hd]) := zq (HKO.out.ex hE0)
        have HQ4 : Hid (Blk wf0 (w.heap.size + 1) 37 [.slice none 0 0, .slice none 0 0, .slice none 0 0, .int .i64 0, .int .i64 0, .int .i64 0, .int .i64 0, .slice none 0 0, .int .i64 0, .slice none 0 0, .int .i64 0]) := zq (HKR.out.ex hE0)
        have HQ5 : Hid (Ex w wf0) := zq (HEX.out.trans hE0)
        have HQ6 := zq hB0
        have HRa := zq (HQ1.out.b.off HQ6.out (by decide))
        have HRb := zq (HQ1.out.f.off HQ6.out (by decide))
        have HRc := zq (HQ1.out.l.off HQ6.out (by decide))
        have HRd := zq (HQ1.out.o.off HQ6.out (by decide))
        have HRe := zq (HQ2.out.off HQ6.out (by decide))
        clear hfm
        go_wp2_with fail
        go_meet
        exact ⟨w8.heap.size, aq, rfl, rfl, Blk.put9 HQ6.out, (zf HQ3.out), ⟨(zr HQ1.out.b HRa.out), (zr HQ1.out.f HRb.out), (zr HQ1.out.l HRc.out), (zr HQ1.out.o HRd.out)⟩, (zr HQ2.out HRe.out), (ze HQ5.out), (zf HQ4.out), by omega⟩
    case rest =>
      obtain ⟨gM, aq, rfl, rfl, hkm, hko, hfm, hkf, hex, hkr, hgm⟩ := hcut
      have KM := zq hkm; have KO := zq hko; have KR := zq hkr
      have FM := zq hfm; have FK := zq hkf; have EX := zq hex
      clear hkm hko hfm hkf hex hkr HKO HFM HFK HEX HKR FK8 CTK HBF8 HF
      obtain ⟨m0, m1, m2, m3, m4, m5, m6, m7, m8⟩ := KM.out.c9
      have ml := KM.out.lt
      obtain ⟨o0, o1, o2, o3, o4, o5, o6, o7, o8, o9, o10⟩ := KO.out.c11
      have oz := KO.out.frozen; have ol := KO.out.lt
      have hgM1 : ¬ gM = gO := by omega
      have hgM2 : ¬ gO = gM := by omega
      have HOa := zq (FM.out.b.off KO.out (by decide))
      have HOb := zq (FM.out.f.off KO.out (by decide))
      have HOc := zq (FM.out.l.off KO.out (by decide))
      have HOd := zq (FM.out.o.off KO.out (by decide))
      have HOe := zq (FK.out.off KO.out (by decide))
      go_wp2_with fail
      refine name_code ?_
      intro w9 hw9
      have HW9 := zq hw9
      obtain ⟨q, hq⟩ : ∃ q : MemD, q = ⟨tm, ks.set i false, (hd : Int)⟩ := ⟨_, rfl⟩
      obtain ⟨Kq, hKq⟩ : ∃ Kq : Option Addr, Kq = some ⟨gK, 0, none⟩ := ⟨_, rfl⟩
      obtain ⟨kq, hkq⟩ : ∃ kq : Nat, kq = k3 := ⟨_, rfl⟩
      have hqt : tm = q.mach := by rw [hq]
      have HKO : Hid (Blk w9 gO 37 [.slice aq.b q.mach.table.buckets.length aq.bc, .slice aq.f q.mach.table.frames.length aq.fc, .slice aq.l q.mach.cache.lines.length aq.lc, .int .i64 q.mach.cache.hand, .int .i64 q.mach.tags.count, .int .i64 q.mach.tags.next, .int .i64 q.mach.tags.round, .slice aq.o q.mach.tags.owns.length aq.oc, .int .i64 q.mach.space, .slice Kq q.marks.length kq, .int .i64 q.hand]) := zq (by rw [HW9.out, hq, hKq, hkq]; simp only [List.length_set]; exact Blk.put9b KO.out)
      have HFM : Hid (FrM w9 w.heap.size q.mach aq) := zq (by rw [HW9.out, hq]; exact ⟨(zr FM.out.b HOa.out), (zr FM.out.f HOb.out), (zr FM.out.l HOc.out), (zr FM.out.o HOd.out)⟩)
      have HFK : Hid (Fr 4 w9 w.heap.size Kq kq q.marks) := zq (by rw [HW9.out, hq, hKq, hkq]; exact (zr FK.out HOe.out))
      have HEX : Hid (Ex w w9) := zq (by rw [HW9.out]; exact (ze EX.out))
      have HKR : Hid (Blk w9 (w.heap.size + 1) 37 [.slice none 0 0, .slice none 0 0, .slice none 0 0, .int .i64 0, .int .i64 0, .int .i64 0, .int .i64 0, .slice none 0 0, .int .i64 0, .slice none 0 0, .int .i64 0]) := zq (by rw [HW9.out]; exact (zf KR.out))
      have HFIN : Hid (MemOk ⟨qm, q.marks, q.hand⟩ ∧ 0 ≤ findF qm.table (keyFor qm.space page)) := zq (by rw [hq]; exact HFIN.out)
      have hsq : x.mach.space = q.mach.space := by rw [hq]; exact HSP.out.symm
      rw [hsq] at CKF
      rw [hqt] at CPP
      have CPP := zq (fun w' (h1 : HasM w' q.mach aq) => CPP.out aq w' h1 HFM.out.cap HFM.out.capx)
      clear KM KO KR FM FK EX m0 m1 m2 m3 m4 m5 m6 m7 m8 ml o0 o1 o2 o3 o4 o5 o6 o7 o8 o9 o10 oz ol hw9 HW9 hq hKq hkq hqt hsq HOe HOa HOb HOc HOd
      have FKO : Hid (∀ w', Ex w9 w' → (w'.cell? ⟨gO, 0, none⟩ = some (.slice aq.b q.mach.table.buckets.length aq.bc) ∧ w'.cell? ⟨gO, 1, none⟩ = some (.slice aq.f q.mach.table.frames.length aq.fc) ∧ w'.cell? ⟨gO, 2, none⟩ = some (.slice aq.l q.mach.cache.lines.length aq.lc) ∧ w'.cell? ⟨gO, 3, none⟩ = some (.int .i64 q.mach.cache.hand) ∧ w'.cell? ⟨gO, 4, none⟩ = some (.int .i64 q.mach.tags.count) ∧ w'.cell? ⟨gO, 5, none⟩ = some (.int .i64 q.mach.tags.next) ∧ w'.cell? ⟨gO, 6, none⟩ = some (.int .i64 q.mach.tags.round) ∧ w'.cell? ⟨gO, 7, none⟩ = some (.slice aq.o q.mach.tags.owns.length aq.oc) ∧ w'.cell? ⟨gO, 8, none⟩ = some (.int .i64 q.mach.space) ∧ w'.cell? ⟨gO, 9, none⟩ = some (.slice Kq q.marks.length kq) ∧ w'.cell? ⟨gO, 10, none⟩ = some (.int .i64 q.hand))) := zq (fun w' h => (HKO.out.ex h).c11)
      have hjO : gO < w9.heap.size := HKO.out.lt
      have hjw : w.heap.size ≤ w9.heap.size := HEX.out.size
      go_cut [12, 13] (fun s12 s13 wx => BrCut w gO q aq Kq kq qm s12 s13 wx)
      case first =>
        refine wp_region_held_drew (S := (fun w' => (w'.cell? ⟨gO, 0, none⟩ = some (.slice aq.b q.mach.table.buckets.length aq.bc) ∧ w'.cell? ⟨gO, 1, none⟩ = some (.slice aq.f q.mach.table.frames.length aq.fc) ∧ w'.cell? ⟨gO, 2, none⟩ = some (.slice aq.l q.mach.cache.lines.length aq.lc) ∧ w'.cell? ⟨gO, 3, none⟩ = some (.int .i64 q.mach.cache.hand) ∧ w'.cell? ⟨gO, 4, none⟩ = some (.int .i64 q.mach.tags.count) ∧ w'.cell? ⟨gO, 5, none⟩ = some (.int .i64 q.mach.tags.next) ∧ w'.cell? ⟨gO, 6, none⟩ = some (.int .i64 q.mach.tags.round) ∧ w'.cell? ⟨gO, 7, none⟩ = some (.slice aq.o q.mach.tags.owns.length aq.oc) ∧ w'.cell? ⟨gO, 8, none⟩ = some (.int .i64 q.mach.space) ∧ w'.cell? ⟨gO, 9, none⟩ = some (.slice Kq q.marks.length kq) ∧ w'.cell? ⟨gO, 10, none⟩ = some (.int .i64 q.hand)))) (by kernel_rfl) ?r2_hS0 (fun hHeld => ?_)
        case r2_hS0 => exact FKO.out _ (Ex.refl _).drew
        refine tk 0 ?_; refine tk 1 ?_; refine tk 2 ?_; refine tk 3 ?_; refine tk 4 ?_; refine tk 5 ?_; refine tk 7 ?_; refine tk 8 ?_
        refine wpAnyH_ready (rs := [6, 13]) (by kernel_rfl) (by simp) ?_
        refine AllReadyH.cons (o := ?r2_o0) ?r2_ho0 (fun K hK => ?r2_b0) (AllReadyH.cons (o := ?r2_o1) ?r2_ho1 (fun K hK => ?r2_b1) AllReadyH.nil)
        case r2_ho0 => (conv => lhs; whnf; arg 1; whnf)
        case r2_ho1 => (conv => lhs; whnf; arg 1; whnf)
        case r2_b0 =>
          refine step_call_gu rfl CE0.out _ _ rfl #[.int .i64 q.mach.space, .int .i64 page] rfl (CKF.out _) ?_; rintro r wf0 ⟨rfl, hb0⟩; refine ⟨_, rfl, ?_⟩; have hE0 : Ex w9 wf0 := Ex.trans (by with_reducible repeat' (first | exact Ex.refl _ | exact hE1 | exact hE0 | refine Ex.alloc ?_ _ | refine Ex.drew ?_)) hb0; have hz0 := hE0.size; have hy0 := hb0.size
          refine hK.out _ _ ?r2_hS0 (fun hHeld0 => ?_)
          case r2_hS0 => exact FKO.out _ hE0
          clear hK K hHeld
          try simp only [Act.put, List.setIfInBounds_toArray, List.set_cons_zero, List.set_cons_succ]
          refine wpAnyH_ready (rs := [9, 13]) (by kernel_rfl) (by simp) ?_
          refine AllReadyH.cons (o := ?r2_o2) ?r2_ho2 (fun K hK => ?r2_b2) (AllReadyH.cons (o := ?r2_o3) ?r2_ho3 (fun K hK => ?r2_b3) AllReadyH.nil)
          case r2_ho2 => (conv => lhs; whnf; arg 1; whnf)
          case r2_ho3 => (conv => lhs; whnf; arg 1; whnf)
          case r2_b2 =>
            refine step_call_gu rfl CE1.out _ _ rfl #[.agg #[.slice aq.b q.mach.table.buckets.length aq.bc, .slice aq.f q.mach.table.frames.length aq.fc, .slice aq.l q.mach.cache.lines.length aq.lc, .int .i64 q.mach.cache.hand, .int .i64 q.mach.tags.count, .int .i64 q.mach.tags.next, .int .i64 q.mach.tags.round, .slice aq.o q.mach.tags.owns.length aq.oc, .int .i64 q.mach.space], .agg #[.int .i64 ky.space, .int .i64 ky.page], .int .i64 i, .int .i64 rights] rfl (CPP.out _ (HFM.out.has.ex (by with_reducible repeat' (first | exact Ex.refl _ | exact hE1 | exact hE0 | refine Ex.alloc ?_ _ | refine Ex.drew ?_)))) ?_; rintro r wf1 ⟨am, rfl, hfm, hb1⟩; refine ⟨_, rfl, ?_⟩; have hE1 : Ex w9 wf1 := Ex.trans (by with_reducible repeat' (first | exact Ex.refl _ | exact hE1 | exact hE0 | refine Ex.alloc ?_ _ | refine Ex.drew ?_)) hb1; have hz1 := hE1.size; have hy1 := hb1.size
            refine hK.out _ _ ?r2_hS2 (fun hHeld2 => ?_)
            case r2_hS2 => exact FKO.out _ hE1
            clear hK K hHeld0
            try simp only [Act.put, List.setIfInBounds_toArray, List.set_cons_zero, List.set_cons_succ]
            refine tk 10 ?_; refine tk 11 ?_; refine tk 12 ?_
            refine wpAnyH_ready (rs := [13]) (by kernel_rfl) (by simp) ?_
            refine AllReadyH.cons (o := ?r2_o4) ?r2_ho4 (fun K hK => ?r2_b4) AllReadyH.nil
            case r2_ho4 => (conv => lhs; whnf; arg 1; whnf)
            case' r2_b4 => skip
            go_simp
            refine hK.out _ _ ?r2_hS4 (fun hHeld4 => ?_)
            case r2_hS4 => exact FKO.out _ (by with_reducible repeat' (first | exact Ex.refl _ | exact hE1 | exact hE0 | refine Ex.alloc ?_ _ | refine Ex.drew ?_))
            clear hK K hHeld2
            try simp only [Act.put, List.setIfInBounds_toArray, List.set_cons_zero, List.set_cons_succ]
            refine wpAnyH_ready (rs := [14]) (by kernel_rfl) (by simp) ?_
            refine AllReadyH.cons (o := ?r2_o5) ?r2_ho5 (fun K hK => ?r2_b5) AllReadyH.nil
            case r2_ho5 => (conv => lhs; whnf; arg 1; whnf)
            case' r2_b5 => skip
            go_simp
            refine hK.out _ _ ?r2_hS5 (fun hHeld5 => ?_)
            case r2_hS5 => exact FKO.out _ (by with_reducible repeat' (first | exact hE1 | exact hE0 | refine Ex.alloc ?_ _ | refine Ex.put ?_ (by omega) _))
            clear hK K hHeld4
            try simp only [Act.put, List.setIfInBounds_toArray, List.set_cons_zero, List.set_cons_succ]
            refine tk 15 ?_
            refine wpAnyH_done (by kernel_rfl) ?_ _
            clear hHeld5
            have HQ1 : Hid (FrM wf1 w.heap.size qm am) := zq (FrM.mono hfm (by first | omega | (simp; omega)))
            have HQ2 : Hid (Fr 4 wf1 w.heap.size Kq kq q.marks) := zq (HFK.out.ex hE1)
            have HQ3 : Hid (Blk wf1 gO 37 [.slice aq.b q.mach.table.buckets.length aq.bc, .slice aq.f q.mach.table.frames.length aq.fc, .slice aq.l q.mach.cache.lines.length aq.lc, .int .i64 q.mach.cache.hand, .int .i64 q.mach.tags.count, .int .i64 q.mach.tags.next, .int .i64 q.mach.tags.round, .slice aq.o q.mach.tags.owns.length aq.oc, .int .i64 q.mach.space, .slice Kq q.marks.length kq, .int .i64 q.hand]) := zq (HKO.out.ex hE1)
            have HQ4 : Hid (Blk wf1 (w.heap.size + 1) 37 [.slice none 0 0, .slice none 0 0, .slice none 0 0, .int .i64 0, .int .i64 0, .int .i64 0, .int .i64 0, .slice none 0 0, .int .i64 0, .slice none 0 0, .int .i64 0]) := zq (HKR.out.ex hE1)
            have HQ5 : Hid (Ex w wf1) := zq (HEX.out.trans hE1)
            clear hfm
            go_wp2_with fail
            go_meet
            exact ⟨wf1.heap.size, am, rfl, rfl, Blk.new _ _ _, (zf HQ3.out), ⟨HQ1.out.b.alloc _, HQ1.out.f.alloc _, HQ1.out.l.alloc _, HQ1.out.o.alloc _⟩, HQ2.out.alloc _, (ze HQ5.out), (zf HQ4.out), by omega⟩
          case r2_b3 =>
            go_simp
            refine hK.out _ _ ?r2_hS3 (fun hHeld3 => ?_)
            case r2_hS3 => exact FKO.out _ (by with_reducible repeat' (first | exact Ex.refl _ | exact hE1 | exact hE0 | refine Ex.alloc ?_ _ | refine Ex.drew ?_))
            clear hK K hHeld0
            try simp only [Act.put, List.setIfInBounds_toArray, List.set_cons_zero, List.set_cons_succ]
            refine wpAnyH_ready (rs := [9]) (by kernel_rfl) (by simp) ?_
            refine AllReadyH.cons (o := ?r2_o6) ?r2_ho6 (fun K hK => ?r2_b6) AllReadyH.nil
            case r2_ho6 => (conv => lhs; whnf; arg 1; whnf)
            case' r2_b6 => skip
            refine step_call_gu rfl CE1.out _ _ rfl #[.agg #[.slice aq.b q.mach.table.buckets.length aq.bc, .slice aq.f q.mach.table.frames.length aq.fc, .slice aq.l q.mach.cache.lines.length aq.lc, .int .i64 q.mach.cache.hand, .int .i64 q.mach.tags.count, .int .i64 q.mach.tags.next, .int .i64 q.mach.tags.round, .slice aq.o q.mach.tags.owns.length aq.oc, .int .i64 q.mach.space], .agg #[.int .i64 ky.space, .int .i64 ky.page], .int .i64 i, .int .i64 rights] rfl (CPP.out _ (HFM.out.has.ex (by with_reducible repeat' (first | exact Ex.refl _ | exact hE1 | exact hE0 | refine Ex.alloc ?_ _ | refine Ex.drew ?_)))) ?_; rintro r wf1 ⟨am, rfl, hfm, hb1⟩; refine ⟨_, rfl, ?_⟩; have hE1 : Ex w9 wf1 := Ex.trans (by with_reducible repeat' (first | exact Ex.refl _ | exact hE1 | exact hE0 | refine Ex.alloc ?_ _ | refine Ex.drew ?_)) hb1; have hz1 := hE1.size; have hy1 := hb1.size; have hB1 := Blk.ex (Blk.new wf0 34 [.slice none 0 0, .slice none 0 0, .slice none 0 0, .int .i64 0, .int .i64 0, .int .i64 0, .int .i64 0, .slice none 0 0, .int .i64 0]) hb1
            refine hK.out _ _ ?r2_hS6 (fun hHeld6 => ?_)
            case r2_hS6 => exact FKO.out _ hE1
            clear hK K hHeld3
            try simp only [Act.put, List.setIfInBounds_toArray, List.set_cons_zero, List.set_cons_succ]
            refine tk 10 ?_; refine tk 11 ?_; refine tk 12 ?_
            refine wpAnyH_ready (rs := [14]) (by kernel_rfl) (by simp) ?_
            refine AllReadyH.cons (o := ?r2_o7) ?r2_ho7 (fun K hK => ?r2_b7) AllReadyH.nil
            case r2_ho7 => (conv => lhs; whnf; arg 1; whnf)
            case' r2_b7 => skip
            obtain ⟨hr0, hr1, hr2, hr3, hr4, hr5, hr6, hr7, hr8⟩ := hB1.c9; have hrf := hB1.frozen; have hrl := hB1.lt; go_simp
            refine hK.out _ _ ?r2_hS7 (fun hHeld7 => ?_)
            case r2_hS7 => exact FKO.out _ (by with_reducible repeat' (first | exact hE1 | exact hE0 | refine Ex.alloc ?_ _ | refine Ex.put ?_ (by omega) _))
            clear hK K hHeld6
            try simp only [Act.put, List.setIfInBounds_toArray, List.set_cons_zero, List.set_cons_succ]
            refine tk 15 ?_
            refine wpAnyH_done (by kernel_rfl) ?_ _
            clear hHeld7
            have HQ1 : Hid (FrM wf1 w.heap.size qm am) := zq (FrM.mono hfm (by first | omega | (simp; omega)))
            have HQ2 : Hid (Fr 4 wf1 w.heap.size Kq kq q.marks) := zq (HFK.out.ex hE1)
            have HQ3 : Hid (Blk wf1 gO 37 [.slice aq.b q.mach.table.buckets.length aq.bc, .slice aq.f q.mach.table.frames.length aq.fc, .slice aq.l q.mach.cache.lines.length aq.lc, .int .i64 q.mach.cache.hand, .int .i64 q.mach.tags.count, .int .i64 q.mach.tags.next, .int .i64 q.mach.tags.round, .slice aq.o q.mach.tags.owns.length aq.oc, .int .i64 q.mach.space, .slice Kq q.marks.length kq, .int .i64 q.hand]) := zq (HKO.out.ex hE1)
            have HQ4 : Hid (Blk wf1 (w.heap.size + 1) 37 [.slice none 0 0, .slice none 0 0, .slice none 0 0, .int .i64 0, .int .i64 0, .int .i64 0, .int .i64 0, .slice none 0 0, .int .i64 0, .slice none 0 0, .int .i64 0]) := zq (HKR.out.ex hE1)
            have HQ5 : Hid (Ex w wf1) := zq (HEX.out.trans hE1)
            have HQ6 := zq hB1
            have HRa := zq (HQ1.out.b.off HQ6.out (by decide))
            have HRb := zq (HQ1.out.f.off HQ6.out (by decide))
            have HRc := zq (HQ1.out.l.off HQ6.out (by decide))
            have HRd := zq (HQ1.out.o.off HQ6.out (by decide))
            have HRe := zq (HQ2.out.off HQ6.out (by decide))
            clear hfm
            go_wp2_with fail
            go_meet
            exact ⟨wf0.heap.size, am, rfl, rfl, Blk.put9 HQ6.out, (zf HQ3.out), ⟨(zr HQ1.out.b HRa.out), (zr HQ1.out.f HRb.out), (zr HQ1.out.l HRc.out), (zr HQ1.out.o HRd.out)⟩, (zr HQ2.out HRe.out), (ze HQ5.out), (zf HQ4.out), by omega⟩
        case r2_b1 =>
          go_simp
          refine hK.out _ _ ?r2_hS1 (fun hHeld1 => ?_)
          case r2_hS1 => exact FKO.out _ (by with_reducible repeat' (first | exact Ex.refl _ | exact hE1 | exact hE0 | refine Ex.alloc ?_ _ | refine Ex.drew ?_))
          clear hK K hHeld
          try simp only [Act.put, List.setIfInBounds_toArray, List.set_cons_zero, List.set_cons_succ]
          refine wpAnyH_ready (rs := [6]) (by kernel_rfl) (by simp) ?_
          refine AllReadyH.cons (o := ?r2_o8) ?r2_ho8 (fun K hK => ?r2_b8) AllReadyH.nil
          case r2_ho8 => (conv => lhs; whnf; arg 1; whnf)
          case' r2_b8 => skip
          refine step_call_gu rfl CE0.out _ _ rfl #[.int .i64 q.mach.space, .int .i64 page] rfl (CKF.out _) ?_; rintro r wf0 ⟨rfl, hb0⟩; refine ⟨_, rfl, ?_⟩; have hE0 : Ex w9 wf0 := Ex.trans (by with_reducible repeat' (first | exact Ex.refl _ | exact hE1 | exact hE0 | refine Ex.alloc ?_ _ | refine Ex.drew ?_)) hb0; have hz0 := hE0.size; have hy0 := hb0.size; have hB0 := Blk.ex (Blk.new w9 34 [.slice none 0 0, .slice none 0 0, .slice none 0 0, .int .i64 0, .int .i64 0, .int .i64 0, .int .i64 0, .slice none 0 0, .int .i64 0]).drew hb0
          refine hK.out _ _ ?r2_hS8 (fun hHeld8 => ?_)
          case r2_hS8 => exact FKO.out _ hE0
          clear hK K hHeld1
          try simp only [Act.put, List.setIfInBounds_toArray, List.set_cons_zero, List.set_cons_succ]
          refine wpAnyH_ready (rs := [9]) (by kernel_rfl) (by simp) ?_
          refine AllReadyH.cons (o := ?r2_o9) ?r2_ho9 (fun K hK => ?r2_b9) AllReadyH.nil
          case r2_ho9 => (conv => lhs; whnf; arg 1; whnf)
          case' r2_b9 => skip
          refine step_call_gu rfl CE1.out _ _ rfl #[.agg #[.slice aq.b q.mach.table.buckets.length aq.bc, .slice aq.f q.mach.table.frames.length aq.fc, .slice aq.l q.mach.cache.lines.length aq.lc, .int .i64 q.mach.cache.hand, .int .i64 q.mach.tags.count, .int .i64 q.mach.tags.next, .int .i64 q.mach.tags.round, .slice aq.o q.mach.tags.owns.length aq.oc, .int .i64 q.mach.space], .agg #[.int .i64 ky.space, .int .i64 ky.page], .int .i64 i, .int .i64 rights] rfl (CPP.out _ (HFM.out.has.ex (by with_reducible repeat' (first | exact Ex.refl _ | exact hE1 | exact hE0 | refine Ex.alloc ?_ _ | refine Ex.drew ?_)))) ?_; rintro r wf1 ⟨am, rfl, hfm, hb1⟩; refine ⟨_, rfl, ?_⟩; have hE1 : Ex w9 wf1 := Ex.trans (by with_reducible repeat' (first | exact Ex.refl _ | exact hE1 | exact hE0 | refine Ex.alloc ?_ _ | refine Ex.drew ?_)) hb1; have hz1 := hE1.size; have hy1 := hb1.size; have hB1 := Blk.ex hB0 hb1
          refine hK.out _ _ ?r2_hS9 (fun hHeld9 => ?_)
          case r2_hS9 => exact FKO.out _ hE1
          clear hK K hHeld8
          try simp only [Act.put, List.setIfInBounds_toArray, List.set_cons_zero, List.set_cons_succ]
          refine tk 10 ?_; refine tk 11 ?_; refine tk 12 ?_
          refine wpAnyH_ready (rs := [14]) (by kernel_rfl) (by simp) ?_
          refine AllReadyH.cons (o := ?r2_o10) ?r2_ho10 (fun K hK => ?r2_b10) AllReadyH.nil
          case r2_ho10 => (conv => lhs; whnf; arg 1; whnf)
          case' r2_b10 => skip
          obtain ⟨hr0, hr1, hr2, hr3, hr4, hr5, hr6, hr7, hr8⟩ := hB1.c9; have hrf := hB1.frozen; have hrl := hB1.lt; go_simp
          refine hK.out _ _ ?r2_hS10 (fun hHeld10 => ?_)
          case r2_hS10 => exact FKO.out _ (by with_reducible repeat' (first | exact hE1 | exact hE0 | refine Ex.alloc ?_ _ | refine Ex.put ?_ (by omega) _))
          clear hK K hHeld9
          try simp only [Act.put, List.setIfInBounds_toArray, List.set_cons_zero, List.set_cons_succ]
          refine tk 15 ?_
          refine wpAnyH_done (by kernel_rfl) ?_ _
          clear hHeld10
          have HQ1 : Hid (FrM wf1 w.heap.size qm am) := zq (FrM.mono hfm (by first | omega | (simp; omega)))
          have HQ2 : Hid (Fr 4 wf1 w.heap.size Kq kq q.marks) := zq (HFK.out.ex hE1)
          have HQ3 : Hid (Blk wf1 gO 37 [.slice aq.b q.mach.table.buckets.length aq.bc, .slice aq.f q.mach.table.frames.length aq.fc, .slice aq.l q.mach.cache.lines.length aq.lc, .int .i64 q.mach.cache.hand, .int .i64 q.mach.tags.count, .int .i64 q.mach.tags.next, .int .i64 q.mach.tags.round, .slice aq.o q.mach.tags.owns.length aq.oc, .int .i64 q.mach.space, .slice Kq q.marks.length kq, .int .i64 q.hand]) := zq (HKO.out.ex hE1)
          have HQ4 : Hid (Blk wf1 (w.heap.size + 1) 37 [.slice none 0 0, .slice none 0 0, .slice none 0 0, .int .i64 0, .int .i64 0, .int .i64 0, .int .i64 0, .slice none 0 0, .int .i64 0, .slice none 0 0, .int .i64 0]) := zq (HKR.out.ex hE1)
          have HQ5 : Hid (Ex w wf1) := zq (HEX.out.trans hE1)
          have HQ6 := zq hB1
          have HRa := zq (HQ1.out.b.off HQ6.out (by decide))
          have HRb := zq (HQ1.out.f.off HQ6.out (by decide))
          have HRc := zq (HQ1.out.l.off HQ6.out (by decide))
          have HRd := zq (HQ1.out.o.off HQ6.out (by decide))
          have HRe := zq (HQ2.out.off HQ6.out (by decide))
          clear hfm
          go_wp2_with fail
          go_meet
          exact ⟨w9.heap.size, am, rfl, rfl, Blk.put9 HQ6.out, (zf HQ3.out), ⟨(zr HQ1.out.b HRa.out), (zr HQ1.out.f HRb.out), (zr HQ1.out.l HRc.out), (zr HQ1.out.o HRd.out)⟩, (zr HQ2.out HRe.out), (ze HQ5.out), (zf HQ4.out), by omega⟩
      case rest =>
        obtain ⟨gM, am, rfl, rfl, hkm, hko, hfm, hkf, hex, hkr, hgm⟩ := hcut
        have KM := zq hkm; have KO := zq hko; have KR := zq hkr
        have FM := zq hfm; have FK := zq hkf; have EX := zq hex
        clear hkm hko hfm hkf hex hkr HKO HFM HFK HEX HKR FKO CPP CKF
        obtain ⟨m0, m1, m2, m3, m4, m5, m6, m7, m8⟩ := KM.out.c9
        have ml := KM.out.lt
        obtain ⟨o0, o1, o2, o3, o4, o5, o6, o7, o8, o9, o10⟩ := KO.out.c11
        have oz := KO.out.frozen; have ol := KO.out.lt
        obtain ⟨r0, r1, r2, r3, r4, r5, r6, r7, r8, r9, r10⟩ := KR.out.c11
        have rz := KR.out.frozen; have rl := KR.out.lt
        have hgR : ¬ gO = w.heap.size + 1 := by omega
        have hgR2 : ¬ w.heap.size + 1 = gO := by omega
        have hgM1 : ¬ gM = gO := by omega
        have hgM2 : ¬ gO = gM := by omega
        have HOa := zq (FM.out.b.off KO.out (by decide)); have HRa := zq (FM.out.b.off KR.out (by decide))
        have HOb := zq (FM.out.f.off KO.out (by decide)); have HRb := zq (FM.out.f.off KR.out (by decide))
        have HOc := zq (FM.out.l.off KO.out (by decide)); have HRc := zq (FM.out.l.off KR.out (by decide))
        have HOd := zq (FM.out.o.off KO.out (by decide)); have HRd := zq (FM.out.o.off KR.out (by decide))
        have HOe := zq (FK.out.off KO.out (by decide)); have HRe := zq (FK.out.off KR.out (by decide))
        go_wp2
        exact bodyPost_ret (v := .tuple #[.agg #[.slice am.b qm.table.buckets.length am.bc, .slice am.f qm.table.frames.length am.fc, .slice am.l qm.cache.lines.length am.lc, .int .i64 qm.cache.hand, .int .i64 qm.tags.count, .int .i64 qm.tags.next, .int .i64 qm.tags.round, .slice am.o qm.tags.owns.length am.oc, .int .i64 qm.space, .slice Kq q.marks.length kq, .int .i64 q.hand], .bool true]) (by simp [results, Tryz.results97, go_sem, *]) rfl
          ⟨⟨qm, q.marks, q.hand⟩, true, am, Kq, kq, rfl, fun _ => HFIN.out, ⟨⟨(zt FM.out.b HOa.out HRa.out), (zt FM.out.f HOb.out HRb.out), (zt FM.out.l HOc.out HRc.out), (zt FM.out.o HOd.out HRd.out)⟩, (zt FK.out HOe.out HRe.out)⟩, (ze EX.out)⟩
end Go.Proofs.YtbdlpbladpppjaaGreatDoor
