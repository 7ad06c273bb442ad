/- Joined: Wm. -/
import Derived.Test.YtbdlpbladpppjaaGreatDoorK14
import Derived.Test.YtbdlpbladpppjaaGreatDoorK3
import Derived.Test.YtbdlpbladpppjaaGreatDoorK4
namespace Go.Proofs.YtbdlpbladpppjaaGreatDoor
open Go.ChangeShapes Go.WideShapes Go.ChangeAt Go.RowKit
open Rec (sz cs)
set_option linter.unusedVariables false
set_option maxRecDepth 100000

set_option maxHeartbeats 8000000 in
theorem machI_c (m : MachD) (a : MA) (w : World) (hx : HasM w m a) (hf : FewM m) (hc : CapM m a) (hv : FreeV w) :
  Calls Tryz.prog 15 #[.agg #[.slice a.b m.table.buckets.length a.bc, .slice a.f m.table.frames.length a.fc, .slice a.l m.cache.lines.length a.lc, .int .i64 m.cache.hand, .int .i64 m.tags.count, .int .i64 m.tags.next, .int .i64 m.tags.round, .slice a.o m.tags.owns.length a.oc, .int .i64 m.space]] w fun r w' => r = .returned (.bool (machV m)) ∧ Ex w w' := by
 obtain ⟨A, c, B, d, L, e, O, g⟩ := a
 have HB : Hid (Rd w A m.table.buckets) := zq hx.b
 have HF : Hid (Rd w B m.table.frames) := zq hx.f
 have HL : Hid (Rd w L m.cache.lines) := zq hx.l
 have HO : Hid (Rd w O m.tags.owns) := zq hx.o
 have HV := zq hv
 have C1 := zq (fun w' (h1 : Rd w' A m.table.buckets) (h2 : Rd w' B m.table.frames) (h3 : FreeV w') => tableI_c m.table A c B d w' h1 h2 hf.b hf.f h3)
 have C2 := zq (fun w' (h1 : Rd w' L m.cache.lines) => cacheValidI_c m.cache L e w' h1 hf.l hc.l)
 have C3 := zq (fun w' (h1 : Rd w' O m.tags.owns) => tagsValidI_c m.tags O g w' h1 hf.o hc.o)
 have C4 := zq (fun w' (h1 : Rd w' O m.tags.owns) => ownI_c m.tags m.space O g w' h1 hf.o)
 clear hx hv
 dsimp only
 cases h1 : tableV m.table
 ·rw [machV_no (fun h => by have := tableV_yes h.1.1; rw [h1] at this; cases this)]
  rw [h1] at C1
  generalize m.table.frames.length = n at C1 ⊢
  generalize m.table.buckets.length = nb at C1 ⊢
  generalize m.cache.lines.length = nl at C2 ⊢
  generalize m.tags.owns.length = no at C3 C4 ⊢
  go_enter Tryz.func15, Tryz.ntmps15
  go_wp2_with fail
  have K0 : Hid (Blk (w.alloc (.cells #[.slice A nb c, .slice B n d, .slice L nl e, .int .i64 m.cache.hand, .int .i64 m.tags.count, .int .i64 m.tags.next, .int .i64 m.tags.round, .slice O no g, .int .i64 m.space] 34)) w.heap.size 34 [.slice A nb c, .slice B n d, .slice L nl e, .int .i64 m.cache.hand, .int .i64 m.tags.count, .int .i64 m.tags.next, .int .i64 m.tags.round, .slice O no g, .int .i64 m.space]) := zq (Blk.new w _ _)
  have E0 : Hid (Ex w (w.alloc (.cells #[.slice A nb c, .slice B n d, .slice L nl e, .int .i64 m.cache.hand, .int .i64 m.tags.count, .int .i64 m.tags.next, .int .i64 m.tags.round, .slice O no g, .int .i64 m.space] 34))) := zq ((Ex.refl w).alloc _)
  refine (C1.out _ (HB.out.ex E0.out) (HF.out.ex E0.out) (HV.out.ex E0.out)).mono ?_
  rintro r w1 ⟨rfl, he1⟩
  have E1 := zq (E0.out.trans he1)
  have K1 := zq (K0.out.ex he1)
  clear he1 E0 K0
  obtain ⟨q0, q1, q2, q3, q4, q5, q6, q7, q8⟩ := K1.out.c9
  have jM := K1.out.lt
  go_wp2
  go_ret
  exact ⟨rfl, E1.out⟩
 rw [h1] at C1
 cases h2 : cacheV m.cache
 ·rw [machV_no (fun h => by have := h.1.2.1; rw [h2] at this; cases this)]
  rw [h2] at C2
  generalize m.table.frames.length = n at C1 ⊢
  generalize m.table.buckets.length = nb at C1 ⊢
  generalize m.cache.lines.length = nl at C2 ⊢
  generalize m.tags.owns.length = no at C3 C4 ⊢
  go_enter Tryz.func15, Tryz.ntmps15
  go_wp2_with fail
  have K0 : Hid (Blk (w.alloc (.cells #[.slice A nb c, .slice B n d, .slice L nl e, .int .i64 m.cache.hand, .int .i64 m.tags.count, .int .i64 m.tags.next, .int .i64 m.tags.round, .slice O no g, .int .i64 m.space] 34)) w.heap.size 34 [.slice A nb c, .slice B n d, .slice L nl e, .int .i64 m.cache.hand, .int .i64 m.tags.count, .int .i64 m.tags.next, .int .i64 m.tags.round, .slice O no g, .int .i64 m.space]) := zq (Blk.new w _ _)
  have E0 : Hid (Ex w (w.alloc (.cells #[.slice A nb c, .slice B n d, .slice L nl e, .int .i64 m.cache.hand, .int .i64 m.tags.count, .int .i64 m.tags.next, .int .i64 m.tags.round, .slice O no g, .int .i64 m.space] 34))) := zq ((Ex.refl w).alloc _)
  refine (C1.out _ (HB.out.ex E0.out) (HF.out.ex E0.out) (HV.out.ex E0.out)).mono ?_
  rintro r w1 ⟨rfl, he1⟩
  have E1 := zq (E0.out.trans he1)
  have K1 := zq (K0.out.ex he1)
  clear he1 E0 K0
  obtain ⟨q0, q1, q2, q3, q4, q5, q6, q7, q8⟩ := K1.out.c9
  have jM := K1.out.lt
  go_wp2_with fail
  clear q0 q1 q2 q3 q4 q5 q6 q7 q8 jM
  refine (C2.out _ (HL.out.ex E1.out)).mono ?_
  rintro r w2 ⟨rfl, he2⟩
  have E2 := zq (E1.out.trans he2)
  have K2 := zq (K1.out.ex he2)
  clear he2 E1 K1
  obtain ⟨q0, q1, q2, q3, q4, q5, q6, q7, q8⟩ := K2.out.c9
  have jM := K2.out.lt
  go_wp2
  go_ret
  exact ⟨rfl, E2.out⟩
 rw [h2] at C2
 cases h3 : tagsV m.tags
 ·rw [machV_no (fun h => by have := h.1.2.2.1; rw [h3] at this; cases this)]
  rw [h3] at C3
  generalize m.table.frames.length = n at C1 ⊢
  generalize m.table.buckets.length = nb at C1 ⊢
  generalize m.cache.lines.length = nl at C2 ⊢
  generalize m.tags.owns.length = no at C3 C4 ⊢
  go_enter Tryz.func15, Tryz.ntmps15
  go_wp2_with fail
  have K0 : Hid (Blk (w.alloc (.cells #[.slice A nb c, .slice B n d, .slice L nl e, .int .i64 m.cache.hand, .int .i64 m.tags.count, .int .i64 m.tags.next, .int .i64 m.tags.round, .slice O no g, .int .i64 m.space] 34)) w.heap.size 34 [.slice A nb c, .slice B n d, .slice L nl e, .int .i64 m.cache.hand, .int .i64 m.tags.count, .int .i64 m.tags.next, .int .i64 m.tags.round, .slice O no g, .int .i64 m.space]) := zq (Blk.new w _ _)
  have E0 : Hid (Ex w (w.alloc (.cells #[.slice A nb c, .slice B n d, .slice L nl e, .int .i64 m.cache.hand, .int .i64 m.tags.count, .int .i64 m.tags.next, .int .i64 m.tags.round, .slice O no g, .int .i64 m.space] 34))) := zq ((Ex.refl w).alloc _)
  refine (C1.out _ (HB.out.ex E0.out) (HF.out.ex E0.out) (HV.out.ex E0.out)).mono ?_
  rintro r w1 ⟨rfl, he1⟩
  have E1 := zq (E0.out.trans he1)
  have K1 := zq (K0.out.ex he1)
  clear he1 E0 K0
  obtain ⟨q0, q1, q2, q3, q4, q5, q6, q7, q8⟩ := K1.out.c9
  have jM := K1.out.lt
  go_wp2_with fail
  clear q0 q1 q2 q3 q4 q5 q6 q7 q8 jM
  refine (C2.out _ (HL.out.ex E1.out)).mono ?_
  rintro r w2 ⟨rfl, he2⟩
  have E2 := zq (E1.out.trans he2)
  have K2 := zq (K1.out.ex he2)
  clear he2 E1 K1
  obtain ⟨q0, q1, q2, q3, q4, q5, q6, q7, q8⟩ := K2.out.c9
  have jM := K2.out.lt
  go_wp2_with fail
  clear q0 q1 q2 q3 q4 q5 q6 q7 q8 jM
  refine (C3.out _ (HO.out.ex E2.out)).mono ?_
  rintro r w3 ⟨rfl, he3⟩
  have E3 := zq (E2.out.trans he3)
  have K3 := zq (K2.out.ex he3)
  clear he3 E2 K2
  obtain ⟨q0, q1, q2, q3, q4, q5, q6, q7, q8⟩ := K3.out.c9
  have jM := K3.out.lt
  go_wp2
  go_ret
  exact ⟨rfl, E3.out⟩
 rw [h3] at C3
 by_cases h4 : ownPlace m.tags.owns m.space < 0
 ·rw [machV_no (fun h => by have := h.1.2.2.2; omega)]
  generalize ownPlace m.tags.owns m.space = op at h4 C4
  generalize m.table.frames.length = n at C1 ⊢
  generalize m.table.buckets.length = nb at C1 ⊢
  generalize m.cache.lines.length = nl at C2 ⊢
  generalize m.tags.owns.length = no at C3 C4 ⊢
  go_enter Tryz.func15, Tryz.ntmps15
  go_wp2_with fail
  have K0 : Hid (Blk (w.alloc (.cells #[.slice A nb c, .slice B n d, .slice L nl e, .int .i64 m.cache.hand, .int .i64 m.tags.count, .int .i64 m.tags.next, .int .i64 m.tags.round, .slice O no g, .int .i64 m.space] 34)) w.heap.size 34 [.slice A nb c, .slice B n d, .slice L nl e, .int .i64 m.cache.hand, .int .i64 m.tags.count, .int .i64 m.tags.next, .int .i64 m.tags.round, .slice O no g, .int .i64 m.space]) := zq (Blk.new w _ _)
  have E0 : Hid (Ex w (w.alloc (.cells #[.slice A nb c, .slice B n d, .slice L nl e, .int .i64 m.cache.hand, .int .i64 m.tags.count, .int .i64 m.tags.next, .int .i64 m.tags.round, .slice O no g, .int .i64 m.space] 34))) := zq ((Ex.refl w).alloc _)
  refine (C1.out _ (HB.out.ex E0.out) (HF.out.ex E0.out) (HV.out.ex E0.out)).mono ?_
  rintro r w1 ⟨rfl, he1⟩
  have E1 := zq (E0.out.trans he1)
  have K1 := zq (K0.out.ex he1)
  clear he1 E0 K0
  obtain ⟨q0, q1, q2, q3, q4, q5, q6, q7, q8⟩ := K1.out.c9
  have jM := K1.out.lt
  go_wp2_with fail
  clear q0 q1 q2 q3 q4 q5 q6 q7 q8 jM
  refine (C2.out _ (HL.out.ex E1.out)).mono ?_
  rintro r w2 ⟨rfl, he2⟩
  have E2 := zq (E1.out.trans he2)
  have K2 := zq (K1.out.ex he2)
  clear he2 E1 K1
  obtain ⟨q0, q1, q2, q3, q4, q5, q6, q7, q8⟩ := K2.out.c9
  have jM := K2.out.lt
  go_wp2_with fail
  clear q0 q1 q2 q3 q4 q5 q6 q7 q8 jM
  refine (C3.out _ (HO.out.ex E2.out)).mono ?_
  rintro r w3 ⟨rfl, he3⟩
  have E3 := zq (E2.out.trans he3)
  have K3 := zq (K2.out.ex he3)
  clear he3 E2 K2
  obtain ⟨q0, q1, q2, q3, q4, q5, q6, q7, q8⟩ := K3.out.c9
  have jM := K3.out.lt
  go_wp2_with fail
  clear q0 q1 q2 q3 q4 q5 q6 q7 q8 jM
  refine (C4.out _ (HO.out.ex E3.out)).mono ?_
  rintro r w4 ⟨rfl, he4⟩
  have E4 := zq (E3.out.trans he4)
  have K4 := zq (K3.out.ex he4)
  clear he4 E3 K3
  obtain ⟨q0, q1, q2, q3, q4, q5, q6, q7, q8⟩ := K4.out.c9
  have jM := K4.out.lt
  go_wp2
  go_ret
  exact ⟨rfl, E4.out⟩
 have HNO : Hid (∀ w', Ex w w' → ¬ MachOk m → (Ending.returned (.bool false) = .returned (.bool (machV m)) ∧ Ex w w')) := zq (fun w' h1 h2 => ⟨ret_bool (machV_no h2).symm, h1⟩)
 have HOK : Hid (MachHead m) := zq ⟨tableV_iff.1 h1, h2, h3, by omega⟩
 have CT := zq (fun xt w' (h : Rd w' O m.tags.owns) => spaceOfI_c m.tags xt O g w' h hf.o hc.o)
 have CF := zq (fun kk w' (h : Rd w' B m.table.frames) => findI_c m.table A c B d kk w' h hf.f)
 have CK := zq (fun s xp w' => keyForI_c s xp w')
 have CEK : Hid (∀ (args : Array Value) (w : World), (callFunc 30 args).run Tryz.prog w = .ok (.enter 30 args) w) := zq (enters Tryz.func30 (by kernel_rfl) (by kernel_rfl))
 have CEF : Hid (∀ (args : Array Value) (w : World), (callFunc 29 args).run Tryz.prog w = .ok (.enter 29 args) w) := zq (enters Tryz.func29 (by kernel_rfl) (by kernel_rfl))
 generalize ownPlace m.tags.owns m.space = op at h4 C4
 obtain ⟨n, en⟩ : ∃ n, n = m.table.frames.length := ⟨_, rfl⟩
 obtain ⟨nl, el⟩ : ∃ n, n = m.cache.lines.length := ⟨_, rfl⟩
 have HN := zq en
 have HNL := zq el
 have hfl : nl ≤ 1048576 := by rw [el]; exact hf.l
 have hfn : n ≤ 1048576 := by rw [en]; exact hf.f
 rw [← en] at C1 CF ⊢
 rw [← el] at C2 ⊢
 generalize m.table.buckets.length = nb at C1 CF ⊢
 generalize m.tags.owns.length = no at C3 C4 CT ⊢
 clear en el hf hc h1 h2 h3
 go_enter Tryz.func15, Tryz.ntmps15
 go_wp2_with fail
 have K0 : Hid (Blk (w.alloc (.cells #[.slice A nb c, .slice B n d, .slice L nl e, .int .i64 m.cache.hand, .int .i64 m.tags.count, .int .i64 m.tags.next, .int .i64 m.tags.round, .slice O no g, .int .i64 m.space] 34)) w.heap.size 34 [.slice A nb c, .slice B n d, .slice L nl e, .int .i64 m.cache.hand, .int .i64 m.tags.count, .int .i64 m.tags.next, .int .i64 m.tags.round, .slice O no g, .int .i64 m.space]) := zq (Blk.new w _ _)
 have E0 : Hid (Ex w (w.alloc (.cells #[.slice A nb c, .slice B n d, .slice L nl e, .int .i64 m.cache.hand, .int .i64 m.tags.count, .int .i64 m.tags.next, .int .i64 m.tags.round, .slice O no g, .int .i64 m.space] 34))) := zq ((Ex.refl w).alloc _)
 refine (C1.out _ (HB.out.ex E0.out) (HF.out.ex E0.out) (HV.out.ex E0.out)).mono ?_
 rintro r w1 ⟨rfl, he1⟩
 have E1 := zq (E0.out.trans he1)
 have K1 := zq (K0.out.ex he1)
 clear he1 E0 K0
 obtain ⟨q0, q1, q2, q3, q4, q5, q6, q7, q8⟩ := K1.out.c9
 have jM := K1.out.lt
 go_wp2_with fail
 clear q0 q1 q2 q3 q4 q5 q6 q7 q8 jM
 refine (C2.out _ (HL.out.ex E1.out)).mono ?_
 rintro r w2 ⟨rfl, he2⟩
 have E2 := zq (E1.out.trans he2)
 have K2 := zq (K1.out.ex he2)
 clear he2 E1 K1
 obtain ⟨q0, q1, q2, q3, q4, q5, q6, q7, q8⟩ := K2.out.c9
 have jM := K2.out.lt
 go_wp2_with fail
 clear q0 q1 q2 q3 q4 q5 q6 q7 q8 jM
 refine (C3.out _ (HO.out.ex E2.out)).mono ?_
 rintro r w3 ⟨rfl, he3⟩
 have E3 := zq (E2.out.trans he3)
 have K3 := zq (K2.out.ex he3)
 clear he3 E2 K2
 obtain ⟨q0, q1, q2, q3, q4, q5, q6, q7, q8⟩ := K3.out.c9
 have jM := K3.out.lt
 go_wp2_with fail
 clear q0 q1 q2 q3 q4 q5 q6 q7 q8 jM
 refine (C4.out _ (HO.out.ex E3.out)).mono ?_
 rintro r w4 ⟨rfl, he4⟩
 have E4 := zq (E3.out.trans he4)
 have K4 := zq (K3.out.ex he4)
 clear he4 E3 K3
 obtain ⟨q0, q1, q2, q3, q4, q5, q6, q7, q8⟩ := K4.out.c9
 have jM := K4.out.lt
 go_wp2
 clear q0 q1 q2 q3 q4 q5 q6 q7 q8 jM C1 C2 C3 C4 HV
 obtain ⟨gm, hgm⟩ : ∃ gm : Nat, gm = w.heap.size := ⟨_, rfl⟩
 rw [← hgm] at K4 ⊢
 clear hgm
 go_loopw [40] (fun i wr => ∃ k : Nat, k ≤ n ∧ i = .int .i64 k ∧ Ex w4 wr ∧ ∀ (j : Nat) (h : FrameD), j < k → m.table.frames[j]? = some h → FrameFits h) (fun i _ => n - (intOf i).toNat)
 case atStart => exact ⟨0, Nat.zero_le _, rfl, Ex.refl _, fun j h hj => by omega⟩
 case round =>
  obtain ⟨k, hk, rfl, hq, hall⟩ := hrel
  have HQ := zq (E4.out.trans hq)
  have HQ4 := zq hq
  have HALL := zq hall
  have KQ := zq (K4.out.ex hq)
  clear hq hall
  obtain ⟨q0, q1, q2, q3, q4, q5, q6, q7, q8⟩ := KQ.out.c9
  have jM := KQ.out.lt
  by_cases hlt : k < n
  ·obtain ⟨b2, o2, f, rfl, hb2, hfi, k0, k1, k2, k3, k4⟩ := (HF.out.ex HQ.out).frame (k := k) (by have := HN.out; omega)
   have HFI := zq hfi
   clear hfi
   have HNEXT : Hid (FrameFits f → ∀ (j : Nat) (h : FrameD), j < k + 1 → m.table.frames[j]? = some h → FrameFits h) := zq (fun hff j h hj hh => by
    by_cases e : j = k
    ·subst e
     have := HFI.out
     rw [this] at hh
     injection hh with hh
     rw [← hh]; exact hff
    ·exact HALL.out j h (by omega) hh)
   cases hu : f.used
   ·rw [hu] at k0
    have HFF := zq (HNEXT.out (fun h => by rw [hu] at h; cases h.1))
    clear hu
    go_wp2
    go_roundw
    case rel => exact ⟨k + 1, by omega, by go_num, HQ4.out.alloc _, HFF.out⟩
    case measure => simp [intOf]; omega
   rw [hu] at k0
   by_cases hp : 128 ≤ f.key.page
   ·by_cases hs : f.key.space = 0
    ·have HFF := zq (HNEXT.out (fun h => h.2.2 hs))
     rw [hs] at k1
     clear hu
     go_wp2
     go_roundw
     case rel => exact ⟨k + 1, by omega, by go_num, HQ4.out.alloc _, HFF.out⟩
     case measure => simp [intOf]; omega
    ·have HBAD : Hid (¬ MachOk m) := zq (fun h => h.2.1 k f HFI.out ⟨hu, hp, hs⟩)
     have hb1 : (f.key.space != 0) = true := by simpa using hs
     have hb2' : (!f.key.space == 0) = true := by simpa using hs
     clear hu
     go_wp2
     go_ret
     exact HNO.out _ (HQ.out.alloc _) HBAD.out
   ·have HFF := zq (HNEXT.out (fun h => hp h.2.1))
    clear hu
    go_wp2
    go_roundw
    case rel => exact ⟨k + 1, by omega, by go_num, HQ4.out.alloc _, HFF.out⟩
    case measure => simp [intOf]; omega
  ·obtain rfl : k = n := by omega
   have HFA : Hid (∀ (i : Nat) (f : FrameD), m.table.frames[i]? = some f → FrameFits f) := zq (fun i f h => HALL.out i f (by have := getElem?_lt h; have := HN.out; omega) h)
   go_wp2
   clear q0 q1 q2 q3 q4 q5 q6 q7 q8 jM HALL HQ KQ
   go_loopw [63] (fun i wq => ∃ q : Nat, q ≤ nl ∧ i = .int .i64 q ∧ Ex w4 wq ∧ ∀ (j : Nat) (h : LineD), j < q → m.cache.lines[j]? = some h → h.valid = true → LineFits m h) (fun i _ => nl - (intOf i).toNat)
   case atStart => exact ⟨0, Nat.zero_le _, rfl, HQ4.out, fun j h hj => by omega⟩
   case round =>
    clear HQ4
    obtain ⟨q, hk, rfl, hq, hall⟩ := hrel
    have HQ := zq (E4.out.trans hq)
    have HQ4 := zq hq
    have HALL := zq hall
    have KQ := zq (K4.out.ex hq)
    clear hq hall
    by_cases hlt : q < nl
    ·obtain ⟨b3, o3, x, rfl, hb3, hxi, k0, k1, k2, k3, k4, k5⟩ := (HL.out.ex HQ.out).line (k := q) (by have := HNL.out; omega)
     obtain ⟨xv, xt, xp, xf, xr, xw⟩ := x
     dsimp only at k0 k1 k2 k3 k4 k5
     have HXI := zq hxi
     clear hxi
     have HNEXT : Hid ((xv = true → LineFits m ⟨xv, xt, xp, xf, xr, xw⟩) → ∀ (j : Nat) (h : LineD), j < q + 1 → m.cache.lines[j]? = some h → h.valid = true → LineFits m h) := zq (fun hff j h hj hh hv => by
      by_cases e : j = q
      ·subst e
       have := HXI.out
       rw [this] at hh
       injection hh with hh
       subst hh; exact hff hv
      ·exact HALL.out j h (by omega) hh hv)
     obtain ⟨q0, q1, q2, q3, q4, q5, q6, q7, q8⟩ := KQ.out.c9
     have jM := KQ.out.lt
     cases xv
     ·have HFF := zq (HNEXT.out (fun h => by cases h))
      go_wp2
      go_roundw
      case rel => exact ⟨q + 1, by omega, by go_num, HQ4.out.alloc _, HFF.out⟩
      case measure => simp [intOf]; omega
     by_cases htg : xt = -1
     ·by_cases hpg : 128 ≤ xp
      ·have HT1 : Hid (xt = -1 ↔ 128 ≤ xp) := zq (by simp [htg, hpg])
       have HT2 : Hid (xt ≠ -1 → (spaceOf m.tags xt).2 = true) := zq (fun h => absurd htg h)
       have HT3 : Hid (xw = true → xt = -1) := zq (fun _ => htg)
       have hq : lineAt m ⟨true, xt, xp, xf, xr, xw⟩ = findF m.table (keyFor 0 xp) := by unfold lineAt lineSpace; rw [if_pos htg]
       subst htg
       cases xw
       ·skip
        have CK0 := zq (fun w' => CK.out 0 xp w')
        generalize keyFor 0 xp = kk at hq CK0
        have CF0 := zq (fun w' h => CF.out kk w' h)
        rcases findF_range (t := m.table) kk with hm | ⟨i, f, hm, hfi⟩
        ·have HBAD : Hid (¬ MachOk m) := zq (fun h => by obtain ⟨i, f, h1, _⟩ := (h.2.2 q _ HXI.out rfl).2.2.1; rw [hq, hm] at h1; omega)
         rw [hm] at CF0
         clear hq hm
         go_wp2_with fail
         obtain ⟨w0, hw0⟩ : ∃ w0 : World, w0 = wr.alloc (.cells #[.bool true, .int .i64 (-1), .int .i64 xp, .int .i64 xf, .int .i64 xr, .bool false] 64) := ⟨_, rfl⟩
         obtain ⟨gl, hgl⟩ : ∃ gl : Nat, gl = wr.heap.size := ⟨_, rfl⟩
         have K0 : Hid (Blk w0 gm 34 [.slice A nb c, .slice B k d, .slice (some ⟨b3, o3, none⟩) nl e, .int .i64 m.cache.hand, .int .i64 m.tags.count, .int .i64 m.tags.next, .int .i64 m.tags.round, .slice O no g, .int .i64 m.space]) := zq (by rw [hw0]; exact KQ.out.alloc _)
         have K1 : Hid (Blk w0 gl 64 [.bool true, .int .i64 (-1), .int .i64 xp, .int .i64 xf, .int .i64 xr, .bool false]) := zq (by rw [hw0, hgl]; exact Blk.new wr _ _)
         have EW : Hid (Ex wr w0) := zq (by rw [hw0]; exact (Ex.refl wr).alloc _)
         rw [← hw0]
         rw [← hgl]
         clear hw0 hgl
         clear q0 q1 q2 q3 q4 q5 q6 q7 q8 jM k0 k1 k2 k3 k4 k5
         have FK9 : Hid (∀ w', Ex w0 w' → (w'.cell? ⟨gm, 0, none⟩ = some (.slice A nb c) ∧ w'.cell? ⟨gm, 1, none⟩ = some (.slice B k d) ∧ w'.cell? ⟨gl, 2, none⟩ = some (.int .i64 xp))) := zq (fun w' h => ⟨(K0.out.ex h).c9.1, (K0.out.ex h).c9.2.1, (K1.out.ex h).c6.2.2.1⟩)
         refine wp_region_held_drew (S := (fun w' => (w'.cell? ⟨gm, 0, none⟩ = some (.slice A nb c) ∧ w'.cell? ⟨gm, 1, none⟩ = some (.slice B k d) ∧ w'.cell? ⟨gl, 2, none⟩ = some (.int .i64 xp)))) (by kernel_rfl) ?r0_hS0 (fun hHeld => ?_)
         case r0_hS0 => exact FK9.out _ (Ex.refl _).drew
         refine tk 0 ?_; refine tk 1 ?_; refine tk 2 ?_; refine tk 3 ?_; refine tk 4 ?_
         refine wpAnyH_ready (rs := [5]) (by kernel_rfl) (by simp) ?_
         refine AllReadyH.cons (o := ?r0_o5) ?r0_ho5 (fun K hK => ?_) AllReadyH.nil
         case r0_ho5 => (conv => lhs; whnf; arg 1; whnf)
         refine step_call_gu rfl CEK.out _ _ rfl #[.int .i64 0, .int .i64 xp] rfl (CK0.out _) ?_; rintro r wa ⟨rfl, hwa⟩; refine ⟨_, rfl, ?_⟩; have hxa := Ex.trans (Ex.refl _).drew hwa
         refine hK.out _ _ ?r0_hS5 (fun hHeld5 => ?_)
         case r0_hS5 => exact FK9.out _ hxa
         clear hK K hHeld
         try simp only [Act.put, List.setIfInBounds_toArray, List.set_cons_zero, List.set_cons_succ]
         refine wpAnyH_ready (rs := [6]) (by kernel_rfl) (by simp) ?_
         refine AllReadyH.cons (o := ?r0_o6) ?r0_ho6 (fun K hK => ?_) AllReadyH.nil
         case r0_ho6 => (conv => lhs; whnf; arg 1; whnf)
         refine step_call_gu rfl CEF.out _ _ rfl #[.agg #[.slice A nb c, .slice B k d], .agg #[.int .i64 kk.space, .int .i64 kk.page]] rfl (CF0.out _ (HF.out.ex ((HQ.out.trans EW.out).trans hxa))) ?_; rintro r w3 ⟨rfl, he⟩; refine ⟨_, rfl, ?_⟩; have hx3 := Ex.trans hxa he
         refine hK.out _ _ ?r0_hS6 (fun hHeld6 => ?_)
         case r0_hS6 => exact FK9.out _ hx3
         clear hK K hHeld5
         try simp only [Act.put, List.setIfInBounds_toArray, List.set_cons_zero, List.set_cons_succ]
         refine tk 7 ?_
         refine wpAnyH_done (by kernel_rfl) ?_ _
         have HX3 := zq hx3
         clear hx3 hxa he hwa
         go_wp2_with fail
         have FK10 : Hid (∀ w', Ex w3 w' → True) := zq (fun w' h => trivial)
         refine wp_region_held_drew (S := (fun w' => True)) (by kernel_rfl) ?r1_hS0 (fun hHeld => ?_)
         case r1_hS0 => exact FK10.out _ (Ex.refl _).drew
         refine tk 0 ?_; refine tk 1 ?_; refine tk 2 ?_; refine tn 3 ?_; refine tn 4 ?_; refine tn 5 ?_; refine tn 6 ?_; refine tk 7 ?_; refine tk 8 ?_; refine tn 9 ?_; refine tn 10 ?_; refine tn 11 ?_; refine tn 12 ?_; refine tn 13 ?_
         refine tn 14 ?_; refine tn 15 ?_; refine tn 16 ?_; refine tn 17 ?_; refine tn 18 ?_; refine tk 19 ?_
         refine wpAnyH_done (by kernel_rfl) ?_ _
         go_wp2
         go_ret
         exact HNO.out _ ((HQ.out.trans EW.out).trans HX3.out).drew HBAD.out
        rw [hm] at CF0 hq
        have hin : i < k := by have := getElem?_lt hfi; have := HN.out; omega
        obtain ⟨b2, o2, f', rfl, hb2, hfi', z0, z1, z2, z3, z4⟩ := (HF.out.ex HQ.out).frame (k := i) (getElem?_lt hfi)
        have e : f = f' := by rw [hfi] at hfi'; injection hfi'
        subst e
        have HB2 := zq hb2
        have Z3 := zq z3
        have HIFF : Hid (LineFits m ⟨true, (-1), xp, xf, xr, false⟩ ↔ (i : Int) = xf ∧ f.rights = xr) := zq (by
         constructor
         ·rintro ⟨_, _, ⟨i', f', h1, h2, h3, h4⟩, h5⟩
          have e : i' = i := by rw [hq] at h1; omega
          subst e
          rw [hfi] at h3
          injection h3 with h3
          rw [h3]
          exact ⟨h2, h4⟩
         ·rintro ⟨h1, h2⟩
          exact ⟨HT1.out, HT2.out, ⟨i, f, hq, h1, hfi, h2⟩, HT3.out⟩)
        clear hb2 z0 z1 z2 z3 z4 hq hm hfi hfi'
        have hi0 : ¬ (i : Int) < 0 := by omega
        by_cases hfr : (i : Int) = xf
        rotate_left
        ·have HBAD : Hid (¬ MachOk m) := zq (fun h => hfr (HIFF.out.1 (h.2.2 q _ HXI.out rfl)).1)
         have hbb : ((i : Int) == xf) = false := by simpa using hfr
         have hbn : ((i : Int) != xf) = true := by simpa using hfr
         have hbm : (!((i : Int) == xf)) = true := by simpa using hfr
         go_wp2_with fail
         obtain ⟨w0, hw0⟩ : ∃ w0 : World, w0 = wr.alloc (.cells #[.bool true, .int .i64 (-1), .int .i64 xp, .int .i64 xf, .int .i64 xr, .bool false] 64) := ⟨_, rfl⟩
         obtain ⟨gl, hgl⟩ : ∃ gl : Nat, gl = wr.heap.size := ⟨_, rfl⟩
         have K0 : Hid (Blk w0 gm 34 [.slice A nb c, .slice (some ⟨b2, o2, none⟩) k d, .slice (some ⟨b3, o3, none⟩) nl e, .int .i64 m.cache.hand, .int .i64 m.tags.count, .int .i64 m.tags.next, .int .i64 m.tags.round, .slice O no g, .int .i64 m.space]) := zq (by rw [hw0]; exact KQ.out.alloc _)
         have K1 : Hid (Blk w0 gl 64 [.bool true, .int .i64 (-1), .int .i64 xp, .int .i64 xf, .int .i64 xr, .bool false]) := zq (by rw [hw0, hgl]; exact Blk.new wr _ _)
         have EW : Hid (Ex wr w0) := zq (by rw [hw0]; exact (Ex.refl wr).alloc _)
         rw [← hw0]
         rw [← hgl]
         clear hw0 hgl
         clear q0 q1 q2 q3 q4 q5 q6 q7 q8 jM k0 k1 k2 k3 k4 k5
         have FK9 : Hid (∀ w', Ex w0 w' → (w'.cell? ⟨gm, 0, none⟩ = some (.slice A nb c) ∧ w'.cell? ⟨gm, 1, none⟩ = some (.slice (some ⟨b2, o2, none⟩) k d) ∧ w'.cell? ⟨gl, 2, none⟩ = some (.int .i64 xp))) := zq (fun w' h => ⟨(K0.out.ex h).c9.1, (K0.out.ex h).c9.2.1, (K1.out.ex h).c6.2.2.1⟩)
         refine wp_region_held_drew (S := (fun w' => (w'.cell? ⟨gm, 0, none⟩ = some (.slice A nb c) ∧ w'.cell? ⟨gm, 1, none⟩ = some (.slice (some ⟨b2, o2, none⟩) k d) ∧ w'.cell? ⟨gl, 2, none⟩ = some (.int .i64 xp)))) (by kernel_rfl) ?r2_hS0 (fun hHeld => ?_)
         case r2_hS0 => exact FK9.out _ (Ex.refl _).drew
         refine tk 0 ?_; refine tk 1 ?_; refine tk 2 ?_; refine tk 3 ?_; refine tk 4 ?_
         refine wpAnyH_ready (rs := [5]) (by kernel_rfl) (by simp) ?_
         refine AllReadyH.cons (o := ?r2_o5) ?r2_ho5 (fun K hK => ?_) AllReadyH.nil
         case r2_ho5 => (conv => lhs; whnf; arg 1; whnf)
         refine step_call_gu rfl CEK.out _ _ rfl #[.int .i64 0, .int .i64 xp] rfl (CK0.out _) ?_; rintro r wa ⟨rfl, hwa⟩; refine ⟨_, rfl, ?_⟩; have hxa := Ex.trans (Ex.refl _).drew hwa
         refine hK.out _ _ ?r2_hS5 (fun hHeld5 => ?_)
         case r2_hS5 => exact FK9.out _ hxa
         clear hK K hHeld
         try simp only [Act.put, List.setIfInBounds_toArray, List.set_cons_zero, List.set_cons_succ]
         refine wpAnyH_ready (rs := [6]) (by kernel_rfl) (by simp) ?_
         refine AllReadyH.cons (o := ?r2_o6) ?r2_ho6 (fun K hK => ?_) AllReadyH.nil
         case r2_ho6 => (conv => lhs; whnf; arg 1; whnf)
         refine step_call_gu rfl CEF.out _ _ rfl #[.agg #[.slice A nb c, .slice (some ⟨b2, o2, none⟩) k d], .agg #[.int .i64 kk.space, .int .i64 kk.page]] rfl (CF0.out _ (HF.out.ex ((HQ.out.trans EW.out).trans hxa))) ?_; rintro r w3 ⟨rfl, he⟩; refine ⟨_, rfl, ?_⟩; have hx3 := Ex.trans hxa he
         refine hK.out _ _ ?r2_hS6 (fun hHeld6 => ?_)
         case r2_hS6 => exact FK9.out _ hx3
         clear hK K hHeld5
         try simp only [Act.put, List.setIfInBounds_toArray, List.set_cons_zero, List.set_cons_succ]
         refine tk 7 ?_
         refine wpAnyH_done (by kernel_rfl) ?_ _
         have HX3 := zq hx3
         clear hx3 hxa he hwa
         go_wp2_with fail
         have FK10 : Hid (∀ w', Ex w3 w' → (w'.cell? ⟨gl, 3, none⟩ = some (.int .i64 xf))) := zq (fun w' h => (K1.out.ex (HX3.out.trans h)).c6.2.2.2.1)
         refine wp_region_held_drew (S := (fun w' => (w'.cell? ⟨gl, 3, none⟩ = some (.int .i64 xf)))) (by kernel_rfl) ?r3_hS0 (fun hHeld => ?_)
         case r3_hS0 => exact FK10.out _ (Ex.refl _).drew
         refine tk 0 ?_; refine tk 1 ?_; refine tk 2 ?_; refine tk 3 ?_; refine tk 4 ?_; refine tk 5 ?_; refine tk 6 ?_; refine tk 7 ?_; refine tk 8 ?_; refine tn 9 ?_; refine tn 10 ?_; refine tn 11 ?_; refine tn 12 ?_; refine tn 13 ?_
         refine tn 14 ?_; refine tn 15 ?_; refine tn 16 ?_; refine tn 17 ?_; refine tn 18 ?_; refine tk 19 ?_
         refine wpAnyH_done (by kernel_rfl) ?_ _
         go_wp2
         go_ret
         exact HNO.out _ ((HQ.out.trans EW.out).trans HX3.out).drew HBAD.out
        by_cases hr : f.rights = xr
        rotate_left
        ·have HBAD : Hid (¬ MachOk m) := zq (fun h => hr (HIFF.out.1 (h.2.2 q _ HXI.out rfl)).2)
         have hbb : (f.rights == xr) = false := by simpa using hr
         have hbn : (f.rights != xr) = true := by simpa using hr
         have hbm : (!(f.rights == xr)) = true := by simpa using hr
         clear HIFF
         subst hfr
         go_wp2_with fail
         obtain ⟨w0, hw0⟩ : ∃ w0 : World, w0 = wr.alloc (.cells #[.bool true, .int .i64 (-1), .int .i64 xp, .int .i64 (i : Int), .int .i64 xr, .bool false] 64) := ⟨_, rfl⟩
         obtain ⟨gl, hgl⟩ : ∃ gl : Nat, gl = wr.heap.size := ⟨_, rfl⟩
         have K0 : Hid (Blk w0 gm 34 [.slice A nb c, .slice (some ⟨b2, o2, none⟩) k d, .slice (some ⟨b3, o3, none⟩) nl e, .int .i64 m.cache.hand, .int .i64 m.tags.count, .int .i64 m.tags.next, .int .i64 m.tags.round, .slice O no g, .int .i64 m.space]) := zq (by rw [hw0]; exact KQ.out.alloc _)
         have K1 : Hid (Blk w0 gl 64 [.bool true, .int .i64 (-1), .int .i64 xp, .int .i64 (i : Int), .int .i64 xr, .bool false]) := zq (by rw [hw0, hgl]; exact Blk.new wr _ _)
         have EW : Hid (Ex wr w0) := zq (by rw [hw0]; exact (Ex.refl wr).alloc _)
         rw [← hw0]
         rw [← hgl]
         clear hw0 hgl
         clear q0 q1 q2 q3 q4 q5 q6 q7 q8 jM k0 k1 k2 k3 k4 k5
         have FK9 : Hid (∀ w', Ex w0 w' → (w'.cell? ⟨gm, 0, none⟩ = some (.slice A nb c) ∧ w'.cell? ⟨gm, 1, none⟩ = some (.slice (some ⟨b2, o2, none⟩) k d) ∧ w'.cell? ⟨gl, 2, none⟩ = some (.int .i64 xp))) := zq (fun w' h => ⟨(K0.out.ex h).c9.1, (K0.out.ex h).c9.2.1, (K1.out.ex h).c6.2.2.1⟩)
         refine wp_region_held_drew (S := (fun w' => (w'.cell? ⟨gm, 0, none⟩ = some (.slice A nb c) ∧ w'.cell? ⟨gm, 1, none⟩ = some (.slice (some ⟨b2, o2, none⟩) k d) ∧ w'.cell? ⟨gl, 2, none⟩ = some (.int .i64 xp)))) (by kernel_rfl) ?r4_hS0 (fun hHeld => ?_)
         case r4_hS0 => exact FK9.out _ (Ex.refl _).drew
         refine tk 0 ?_; refine tk 1 ?_; refine tk 2 ?_; refine tk 3 ?_; refine tk 4 ?_
         refine wpAnyH_ready (rs := [5]) (by kernel_rfl) (by simp) ?_
         refine AllReadyH.cons (o := ?r4_o5) ?r4_ho5 (fun K hK => ?_) AllReadyH.nil
         case r4_ho5 => (conv => lhs; whnf; arg 1; whnf)
         refine step_call_gu rfl CEK.out _ _ rfl #[.int .i64 0, .int .i64 xp] rfl (CK0.out _) ?_; rintro r wa ⟨rfl, hwa⟩; refine ⟨_, rfl, ?_⟩; have hxa := Ex.trans (Ex.refl _).drew hwa
         refine hK.out _ _ ?r4_hS5 (fun hHeld5 => ?_)
         case r4_hS5 => exact FK9.out _ hxa
         clear hK K hHeld
         try simp only [Act.put, List.setIfInBounds_toArray, List.set_cons_zero, List.set_cons_succ]
         refine wpAnyH_ready (rs := [6]) (by kernel_rfl) (by simp) ?_
         refine AllReadyH.cons (o := ?r4_o6) ?r4_ho6 (fun K hK => ?_) AllReadyH.nil
         case r4_ho6 => (conv => lhs; whnf; arg 1; whnf)
         refine step_call_gu rfl CEF.out _ _ rfl #[.agg #[.slice A nb c, .slice (some ⟨b2, o2, none⟩) k d], .agg #[.int .i64 kk.space, .int .i64 kk.page]] rfl (CF0.out _ (HF.out.ex ((HQ.out.trans EW.out).trans hxa))) ?_; rintro r w3 ⟨rfl, he⟩; refine ⟨_, rfl, ?_⟩; have hx3 := Ex.trans hxa he
         refine hK.out _ _ ?r4_hS6 (fun hHeld6 => ?_)
         case r4_hS6 => exact FK9.out _ hx3
         clear hK K hHeld5
         try simp only [Act.put, List.setIfInBounds_toArray, List.set_cons_zero, List.set_cons_succ]
         refine tk 7 ?_
         refine wpAnyH_done (by kernel_rfl) ?_ _
         have HX3 := zq hx3
         clear hx3 hxa he hwa
         go_wp2_with fail
         have FK10 : Hid (∀ w', Ex w3 w' → (w'.cell? ⟨gl, 3, none⟩ = some (.int .i64 (i : Int)) ∧ w'.cell? ⟨gl, 4, none⟩ = some (.int .i64 xr) ∧ w'.cell? ⟨gm, 1, none⟩ = some (.slice (some ⟨b2, o2, none⟩) k d) ∧ w'.cell? ⟨b2, o2 + i * 5 + 3, none⟩ = some (.int .i64 f.rights))) := zq (fun w' h => ⟨(K1.out.ex (HX3.out.trans h)).c6.2.2.2.1, (K1.out.ex (HX3.out.trans h)).c6.2.2.2.2.1, (K0.out.ex (HX3.out.trans h)).c9.2.1, (((EW.out.trans HX3.out).trans h).cell HB2.out).trans Z3.out⟩)
         refine wp_region_held_drew (S := (fun w' => (w'.cell? ⟨gl, 3, none⟩ = some (.int .i64 (i : Int)) ∧ w'.cell? ⟨gl, 4, none⟩ = some (.int .i64 xr) ∧ w'.cell? ⟨gm, 1, none⟩ = some (.slice (some ⟨b2, o2, none⟩) k d) ∧ w'.cell? ⟨b2, o2 + i * 5 + 3, none⟩ = some (.int .i64 f.rights)))) (by kernel_rfl) ?r5_hS0 (fun hHeld => ?_)
         case r5_hS0 => exact FK10.out _ (Ex.refl _).drew
         refine tk 0 ?_; refine tk 1 ?_; refine tk 2 ?_; refine tk 3 ?_; refine tk 4 ?_; refine tk 5 ?_; refine tk 6 ?_; refine tk 7 ?_; refine tk 8 ?_; refine tk 9 ?_; refine tk 10 ?_; refine tk 11 ?_; refine tk 12 ?_; refine tk 13 ?_
         refine tk 14 ?_; refine tk 15 ?_; refine tk 16 ?_; refine tk 17 ?_; refine tk 18 ?_; refine tk 19 ?_
         refine wpAnyH_done (by kernel_rfl) ?_ _
         go_wp2
         go_ret
         exact HNO.out _ ((HQ.out.trans EW.out).trans HX3.out).drew HBAD.out
        have HFF := zq (HNEXT.out (fun _ => HIFF.out.2 ⟨hfr, hr⟩))
        clear HIFF
        subst hfr
        subst hr
        go_wp2_with fail
        obtain ⟨w0, hw0⟩ : ∃ w0 : World, w0 = wr.alloc (.cells #[.bool true, .int .i64 (-1), .int .i64 xp, .int .i64 (i : Int), .int .i64 f.rights, .bool false] 64) := ⟨_, rfl⟩
        obtain ⟨gl, hgl⟩ : ∃ gl : Nat, gl = wr.heap.size := ⟨_, rfl⟩
        have K0 : Hid (Blk w0 gm 34 [.slice A nb c, .slice (some ⟨b2, o2, none⟩) k d, .slice (some ⟨b3, o3, none⟩) nl e, .int .i64 m.cache.hand, .int .i64 m.tags.count, .int .i64 m.tags.next, .int .i64 m.tags.round, .slice O no g, .int .i64 m.space]) := zq (by rw [hw0]; exact KQ.out.alloc _)
        have K1 : Hid (Blk w0 gl 64 [.bool true, .int .i64 (-1), .int .i64 xp, .int .i64 (i : Int), .int .i64 f.rights, .bool false]) := zq (by rw [hw0, hgl]; exact Blk.new wr _ _)
        have EW : Hid (Ex wr w0) := zq (by rw [hw0]; exact (Ex.refl wr).alloc _)
        rw [← hw0]
        rw [← hgl]
        clear hw0 hgl
        clear q0 q1 q2 q3 q4 q5 q6 q7 q8 jM k0 k1 k2 k3 k4 k5
        have FK9 : Hid (∀ w', Ex w0 w' → (w'.cell? ⟨gm, 0, none⟩ = some (.slice A nb c) ∧ w'.cell? ⟨gm, 1, none⟩ = some (.slice (some ⟨b2, o2, none⟩) k d) ∧ w'.cell? ⟨gl, 2, none⟩ = some (.int .i64 xp))) := zq (fun w' h => ⟨(K0.out.ex h).c9.1, (K0.out.ex h).c9.2.1, (K1.out.ex h).c6.2.2.1⟩)
        refine wp_region_held_drew (S := (fun w' => (w'.cell? ⟨gm, 0, none⟩ = some (.slice A nb c) ∧ w'.cell? ⟨gm, 1, none⟩ = some (.slice (some ⟨b2, o2, none⟩) k d) ∧ w'.cell? ⟨gl, 2, none⟩ = some (.int .i64 xp)))) (by kernel_rfl) ?r6_hS0 (fun hHeld => ?_)
        case r6_hS0 => exact FK9.out _ (Ex.refl _).drew
        refine tk 0 ?_; refine tk 1 ?_; refine tk 2 ?_; refine tk 3 ?_; refine tk 4 ?_
        refine wpAnyH_ready (rs := [5]) (by kernel_rfl) (by simp) ?_
        refine AllReadyH.cons (o := ?r6_o5) ?r6_ho5 (fun K hK => ?_) AllReadyH.nil
        case r6_ho5 => (conv => lhs; whnf; arg 1; whnf)
        refine step_call_gu rfl CEK.out _ _ rfl #[.int .i64 0, .int .i64 xp] rfl (CK0.out _) ?_; rintro r wa ⟨rfl, hwa⟩; refine ⟨_, rfl, ?_⟩; have hxa := Ex.trans (Ex.refl _).drew hwa
        refine hK.out _ _ ?r6_hS5 (fun hHeld5 => ?_)
        case r6_hS5 => exact FK9.out _ hxa
        clear hK K hHeld
        try simp only [Act.put, List.setIfInBounds_toArray, List.set_cons_zero, List.set_cons_succ]
        refine wpAnyH_ready (rs := [6]) (by kernel_rfl) (by simp) ?_
        refine AllReadyH.cons (o := ?r6_o6) ?r6_ho6 (fun K hK => ?_) AllReadyH.nil
        case r6_ho6 => (conv => lhs; whnf; arg 1; whnf)
        refine step_call_gu rfl CEF.out _ _ rfl #[.agg #[.slice A nb c, .slice (some ⟨b2, o2, none⟩) k d], .agg #[.int .i64 kk.space, .int .i64 kk.page]] rfl (CF0.out _ (HF.out.ex ((HQ.out.trans EW.out).trans hxa))) ?_; rintro r w3 ⟨rfl, he⟩; refine ⟨_, rfl, ?_⟩; have hx3 := Ex.trans hxa he
        refine hK.out _ _ ?r6_hS6 (fun hHeld6 => ?_)
        case r6_hS6 => exact FK9.out _ hx3
        clear hK K hHeld5
        try simp only [Act.put, List.setIfInBounds_toArray, List.set_cons_zero, List.set_cons_succ]
        refine tk 7 ?_
        refine wpAnyH_done (by kernel_rfl) ?_ _
        have HX3 := zq hx3
        clear hx3 hxa he hwa
        go_wp2_with fail
        have FK10 : Hid (∀ w', Ex w3 w' → (w'.cell? ⟨gl, 3, none⟩ = some (.int .i64 (i : Int)) ∧ w'.cell? ⟨gl, 4, none⟩ = some (.int .i64 f.rights) ∧ w'.cell? ⟨gm, 1, none⟩ = some (.slice (some ⟨b2, o2, none⟩) k d) ∧ w'.cell? ⟨b2, o2 + i * 5 + 3, none⟩ = some (.int .i64 f.rights))) := zq (fun w' h => ⟨(K1.out.ex (HX3.out.trans h)).c6.2.2.2.1, (K1.out.ex (HX3.out.trans h)).c6.2.2.2.2.1, (K0.out.ex (HX3.out.trans h)).c9.2.1, (((EW.out.trans HX3.out).trans h).cell HB2.out).trans Z3.out⟩)
        refine wp_region_held_drew (S := (fun w' => (w'.cell? ⟨gl, 3, none⟩ = some (.int .i64 (i : Int)) ∧ w'.cell? ⟨gl, 4, none⟩ = some (.int .i64 f.rights) ∧ w'.cell? ⟨gm, 1, none⟩ = some (.slice (some ⟨b2, o2, none⟩) k d) ∧ w'.cell? ⟨b2, o2 + i * 5 + 3, none⟩ = some (.int .i64 f.rights)))) (by kernel_rfl) ?r7_hS0 (fun hHeld => ?_)
        case r7_hS0 => exact FK10.out _ (Ex.refl _).drew
        refine tk 0 ?_; refine tk 1 ?_; refine tk 2 ?_; refine tk 3 ?_; refine tk 4 ?_; refine tk 5 ?_; refine tk 6 ?_; refine tk 7 ?_; refine tk 8 ?_; refine tk 9 ?_; refine tk 10 ?_; refine tk 11 ?_; refine tk 12 ?_; refine tk 13 ?_
        refine tk 14 ?_; refine tk 15 ?_; refine tk 16 ?_; refine tk 17 ?_; refine tk 18 ?_; refine tk 19 ?_
        refine wpAnyH_done (by kernel_rfl) ?_ _
        go_wp2
        go_roundw
        case rel => exact ⟨q + 1, by omega, by go_num, ((HQ4.out.trans EW.out).trans HX3.out).drew, HFF.out⟩
        case measure => simp [intOf]; omega
       ·skip
        have CK0 := zq (fun w' => CK.out 0 xp w')
        generalize keyFor 0 xp = kk at hq CK0
        have CF0 := zq (fun w' h => CF.out kk w' h)
        rcases findF_range (t := m.table) kk with hm | ⟨i, f, hm, hfi⟩
        ·have HBAD : Hid (¬ MachOk m) := zq (fun h => by obtain ⟨i, f, h1, _⟩ := (h.2.2 q _ HXI.out rfl).2.2.1; rw [hq, hm] at h1; omega)
         rw [hm] at CF0
         clear hq hm
         go_wp2_with fail
         obtain ⟨w0, hw0⟩ : ∃ w0 : World, w0 = wr.alloc (.cells #[.bool true, .int .i64 (-1), .int .i64 xp, .int .i64 xf, .int .i64 xr, .bool true] 64) := ⟨_, rfl⟩
         obtain ⟨gl, hgl⟩ : ∃ gl : Nat, gl = wr.heap.size := ⟨_, rfl⟩
         have K0 : Hid (Blk w0 gm 34 [.slice A nb c, .slice B k d, .slice (some ⟨b3, o3, none⟩) nl e, .int .i64 m.cache.hand, .int .i64 m.tags.count, .int .i64 m.tags.next, .int .i64 m.tags.round, .slice O no g, .int .i64 m.space]) := zq (by rw [hw0]; exact KQ.out.alloc _)
         have K1 : Hid (Blk w0 gl 64 [.bool true, .int .i64 (-1), .int .i64 xp, .int .i64 xf, .int .i64 xr, .bool true]) := zq (by rw [hw0, hgl]; exact Blk.new wr _ _)
         have EW : Hid (Ex wr w0) := zq (by rw [hw0]; exact (Ex.refl wr).alloc _)
         rw [← hw0]
         rw [← hgl]
         clear hw0 hgl
         clear q0 q1 q2 q3 q4 q5 q6 q7 q8 jM k0 k1 k2 k3 k4 k5
         have FK9 : Hid (∀ w', Ex w0 w' → (w'.cell? ⟨gm, 0, none⟩ = some (.slice A nb c) ∧ w'.cell? ⟨gm, 1, none⟩ = some (.slice B k d) ∧ w'.cell? ⟨gl, 2, none⟩ = some (.int .i64 xp))) := zq (fun w' h => ⟨(K0.out.ex h).c9.1, (K0.out.ex h).c9.2.1, (K1.out.ex h).c6.2.2.1⟩)
         refine wp_region_held_drew (S := (fun w' => (w'.cell? ⟨gm, 0, none⟩ = some (.slice A nb c) ∧ w'.cell? ⟨gm, 1, none⟩ = some (.slice B k d) ∧ w'.cell? ⟨gl, 2, none⟩ = some (.int .i64 xp)))) (by kernel_rfl) ?r8_hS0 (fun hHeld => ?_)
         case r8_hS0 => exact FK9.out _ (Ex.refl _).drew
         refine tk 0 ?_; refine tk 1 ?_; refine tk 2 ?_; refine tk 3 ?_; refine tk 4 ?_
         refine wpAnyH_ready (rs := [5]) (by kernel_rfl) (by simp) ?_
         refine AllReadyH.cons (o := ?r8_o5) ?r8_ho5 (fun K hK => ?_) AllReadyH.nil
         case r8_ho5 => (conv => lhs; whnf; arg 1; whnf)
         refine step_call_gu rfl CEK.out _ _ rfl #[.int .i64 0, .int .i64 xp] rfl (CK0.out _) ?_; rintro r wa ⟨rfl, hwa⟩; refine ⟨_, rfl, ?_⟩; have hxa := Ex.trans (Ex.refl _).drew hwa
         refine hK.out _ _ ?r8_hS5 (fun hHeld5 => ?_)
         case r8_hS5 => exact FK9.out _ hxa
         clear hK K hHeld
         try simp only [Act.put, List.setIfInBounds_toArray, List.set_cons_zero, List.set_cons_succ]
         refine wpAnyH_ready (rs := [6]) (by kernel_rfl) (by simp) ?_
         refine AllReadyH.cons (o := ?r8_o6) ?r8_ho6 (fun K hK => ?_) AllReadyH.nil
         case r8_ho6 => (conv => lhs; whnf; arg 1; whnf)
         refine step_call_gu rfl CEF.out _ _ rfl #[.agg #[.slice A nb c, .slice B k d], .agg #[.int .i64 kk.space, .int .i64 kk.page]] rfl (CF0.out _ (HF.out.ex ((HQ.out.trans EW.out).trans hxa))) ?_; rintro r w3 ⟨rfl, he⟩; refine ⟨_, rfl, ?_⟩; have hx3 := Ex.trans hxa he
         refine hK.out _ _ ?r8_hS6 (fun hHeld6 => ?_)
         case r8_hS6 => exact FK9.out _ hx3
         clear hK K hHeld5
         try simp only [Act.put, List.setIfInBounds_toArray, List.set_cons_zero, List.set_cons_succ]
         refine tk 7 ?_
         refine wpAnyH_done (by kernel_rfl) ?_ _
         have HX3 := zq hx3
         clear hx3 hxa he hwa
         go_wp2_with fail
         have FK10 : Hid (∀ w', Ex w3 w' → True) := zq (fun w' h => trivial)
         refine wp_region_held_drew (S := (fun w' => True)) (by kernel_rfl) ?r9_hS0 (fun hHeld => ?_)
         case r9_hS0 => exact FK10.out _ (Ex.refl _).drew
         refine tk 0 ?_; refine tk 1 ?_; refine tk 2 ?_; refine tn 3 ?_; refine tn 4 ?_; refine tn 5 ?_; refine tn 6 ?_; refine tk 7 ?_; refine tk 8 ?_; refine tn 9 ?_; refine tn 10 ?_; refine tn 11 ?_; refine tn 12 ?_; refine tn 13 ?_
         refine tn 14 ?_; refine tn 15 ?_; refine tn 16 ?_; refine tn 17 ?_; refine tn 18 ?_; refine tk 19 ?_
         refine wpAnyH_done (by kernel_rfl) ?_ _
         go_wp2
         go_ret
         exact HNO.out _ ((HQ.out.trans EW.out).trans HX3.out).drew HBAD.out
        rw [hm] at CF0 hq
        have hin : i < k := by have := getElem?_lt hfi; have := HN.out; omega
        obtain ⟨b2, o2, f', rfl, hb2, hfi', z0, z1, z2, z3, z4⟩ := (HF.out.ex HQ.out).frame (k := i) (getElem?_lt hfi)
        have e : f = f' := by rw [hfi] at hfi'; injection hfi'
        subst e
        have HB2 := zq hb2
        have Z3 := zq z3
        have HIFF : Hid (LineFits m ⟨true, (-1), xp, xf, xr, true⟩ ↔ (i : Int) = xf ∧ f.rights = xr) := zq (by
         constructor
         ·rintro ⟨_, _, ⟨i', f', h1, h2, h3, h4⟩, h5⟩
          have e : i' = i := by rw [hq] at h1; omega
          subst e
          rw [hfi] at h3
          injection h3 with h3
          rw [h3]
          exact ⟨h2, h4⟩
         ·rintro ⟨h1, h2⟩
          exact ⟨HT1.out, HT2.out, ⟨i, f, hq, h1, hfi, h2⟩, HT3.out⟩)
        clear hb2 z0 z1 z2 z3 z4 hq hm hfi hfi'
        have hi0 : ¬ (i : Int) < 0 := by omega
        by_cases hfr : (i : Int) = xf
        rotate_left
        ·have HBAD : Hid (¬ MachOk m) := zq (fun h => hfr (HIFF.out.1 (h.2.2 q _ HXI.out rfl)).1)
         have hbb : ((i : Int) == xf) = false := by simpa using hfr
         have hbn : ((i : Int) != xf) = true := by simpa using hfr
         have hbm : (!((i : Int) == xf)) = true := by simpa using hfr
         go_wp2_with fail
         obtain ⟨w0, hw0⟩ : ∃ w0 : World, w0 = wr.alloc (.cells #[.bool true, .int .i64 (-1), .int .i64 xp, .int .i64 xf, .int .i64 xr, .bool true] 64) := ⟨_, rfl⟩
         obtain ⟨gl, hgl⟩ : ∃ gl : Nat, gl = wr.heap.size := ⟨_, rfl⟩
         have K0 : Hid (Blk w0 gm 34 [.slice A nb c, .slice (some ⟨b2, o2, none⟩) k d, .slice (some ⟨b3, o3, none⟩) nl e, .int .i64 m.cache.hand, .int .i64 m.tags.count, .int .i64 m.tags.next, .int .i64 m.tags.round, .slice O no g, .int .i64 m.space]) := zq (by rw [hw0]; exact KQ.out.alloc _)
         have K1 : Hid (Blk w0 gl 64 [.bool true, .int .i64 (-1), .int .i64 xp, .int .i64 xf, .int .i64 xr, .bool true]) := zq (by rw [hw0, hgl]; exact Blk.new wr _ _)
         have EW : Hid (Ex wr w0) := zq (by rw [hw0]; exact (Ex.refl wr).alloc _)
         rw [← hw0]
         rw [← hgl]
         clear hw0 hgl
         clear q0 q1 q2 q3 q4 q5 q6 q7 q8 jM k0 k1 k2 k3 k4 k5
         have FK9 : Hid (∀ w', Ex w0 w' → (w'.cell? ⟨gm, 0, none⟩ = some (.slice A nb c) ∧ w'.cell? ⟨gm, 1, none⟩ = some (.slice (some ⟨b2, o2, none⟩) k d) ∧ w'.cell? ⟨gl, 2, none⟩ = some (.int .i64 xp))) := zq (fun w' h => ⟨(K0.out.ex h).c9.1, (K0.out.ex h).c9.2.1, (K1.out.ex h).c6.2.2.1⟩)
         refine wp_region_held_drew (S := (fun w' => (w'.cell? ⟨gm, 0, none⟩ = some (.slice A nb c) ∧ w'.cell? ⟨gm, 1, none⟩ = some (.slice (some ⟨b2, o2, none⟩) k d) ∧ w'.cell? ⟨gl, 2, none⟩ = some (.int .i64 xp)))) (by kernel_rfl) ?r10_hS0 (fun hHeld => ?_)
         case r10_hS0 => exact FK9.out _ (Ex.refl _).drew
         refine tk 0 ?_; refine tk 1 ?_; refine tk 2 ?_; refine tk 3 ?_; refine tk 4 ?_
         refine wpAnyH_ready (rs := [5]) (by kernel_rfl) (by simp) ?_
         refine AllReadyH.cons (o := ?r10_o5) ?r10_ho5 (fun K hK => ?_) AllReadyH.nil
         case r10_ho5 => (conv => lhs; whnf; arg 1; whnf)
         refine step_call_gu rfl CEK.out _ _ rfl #[.int .i64 0, .int .i64 xp] rfl (CK0.out _) ?_; rintro r wa ⟨rfl, hwa⟩; refine ⟨_, rfl, ?_⟩; have hxa := Ex.trans (Ex.refl _).drew hwa
         refine hK.out _ _ ?r10_hS5 (fun hHeld5 => ?_)
         case r10_hS5 => exact FK9.out _ hxa
         clear hK K hHeld
         try simp only [Act.put, List.setIfInBounds_toArray, List.set_cons_zero, List.set_cons_succ]
         refine wpAnyH_ready (rs := [6]) (by kernel_rfl) (by simp) ?_
         refine AllReadyH.cons (o := ?r10_o6) ?r10_ho6 (fun K hK => ?_) AllReadyH.nil
         case r10_ho6 => (conv => lhs; whnf; arg 1; whnf)
         refine step_call_gu rfl CEF.out _ _ rfl #[.agg #[.slice A nb c, .slice (some ⟨b2, o2, none⟩) k d], .agg #[.int .i64 kk.space, .int .i64 kk.page]] rfl (CF0.out _ (HF.out.ex ((HQ.out.trans EW.out).trans hxa))) ?_; rintro r w3 ⟨rfl, he⟩; refine ⟨_, rfl, ?_⟩; have hx3 := Ex.trans hxa he
         refine hK.out _ _ ?r10_hS6 (fun hHeld6 => ?_)
         case r10_hS6 => exact FK9.out _ hx3
         clear hK K hHeld5
         try simp only [Act.put, List.setIfInBounds_toArray, List.set_cons_zero, List.set_cons_succ]
         refine tk 7 ?_
         refine wpAnyH_done (by kernel_rfl) ?_ _
         have HX3 := zq hx3
         clear hx3 hxa he hwa
         go_wp2_with fail
         have FK10 : Hid (∀ w', Ex w3 w' → (w'.cell? ⟨gl, 3, none⟩ = some (.int .i64 xf))) := zq (fun w' h => (K1.out.ex (HX3.out.trans h)).c6.2.2.2.1)
         refine wp_region_held_drew (S := (fun w' => (w'.cell? ⟨gl, 3, none⟩ = some (.int .i64 xf)))) (by kernel_rfl) ?r11_hS0 (fun hHeld => ?_)
         case r11_hS0 => exact FK10.out _ (Ex.refl _).drew
         refine tk 0 ?_; refine tk 1 ?_; refine tk 2 ?_; refine tk 3 ?_; refine tk 4 ?_; refine tk 5 ?_; refine tk 6 ?_; refine tk 7 ?_; refine tk 8 ?_; refine tn 9 ?_; refine tn 10 ?_; refine tn 11 ?_; refine tn 12 ?_; refine tn 13 ?_
         refine tn 14 ?_; refine tn 15 ?_; refine tn 16 ?_; refine tn 17 ?_; refine tn 18 ?_; refine tk 19 ?_
         refine wpAnyH_done (by kernel_rfl) ?_ _
         go_wp2
         go_ret
         exact HNO.out _ ((HQ.out.trans EW.out).trans HX3.out).drew HBAD.out
        by_cases hr : f.rights = xr
        rotate_left
        ·have HBAD : Hid (¬ MachOk m) := zq (fun h => hr (HIFF.out.1 (h.2.2 q _ HXI.out rfl)).2)
         have hbb : (f.rights == xr) = false := by simpa using hr
         have hbn : (f.rights != xr) = true := by simpa using hr
         have hbm : (!(f.rights == xr)) = true := by simpa using hr
         clear HIFF
         subst hfr
         go_wp2_with fail
         obtain ⟨w0, hw0⟩ : ∃ w0 : World, w0 = wr.alloc (.cells #[.bool true, .int .i64 (-1), .int .i64 xp, .int .i64 (i : Int), .int .i64 xr, .bool true] 64) := ⟨_, rfl⟩
         obtain ⟨gl, hgl⟩ : ∃ gl : Nat, gl = wr.heap.size := ⟨_, rfl⟩
         have K0 : Hid (Blk w0 gm 34 [.slice A nb c, .slice (some ⟨b2, o2, none⟩) k d, .slice (some ⟨b3, o3, none⟩) nl e, .int .i64 m.cache.hand, .int .i64 m.tags.count, .int .i64 m.tags.next, .int .i64 m.tags.round, .slice O no g, .int .i64 m.space]) := zq (by rw [hw0]; exact KQ.out.alloc _)
         have K1 : Hid (Blk w0 gl 64 [.bool true, .int .i64 (-1), .int .i64 xp, .int .i64 (i : Int), .int .i64 xr, .bool true]) := zq (by rw [hw0, hgl]; exact Blk.new wr _ _)
         have EW : Hid (Ex wr w0) := zq (by rw [hw0]; exact (Ex.refl wr).alloc _)
         rw [← hw0]
         rw [← hgl]
         clear hw0 hgl
         clear q0 q1 q2 q3 q4 q5 q6 q7 q8 jM k0 k1 k2 k3 k4 k5
         have FK9 : Hid (∀ w', Ex w0 w' → (w'.cell? ⟨gm, 0, none⟩ = some (.slice A nb c) ∧ w'.cell? ⟨gm, 1, none⟩ = some (.slice (some ⟨b2, o2, none⟩) k d) ∧ w'.cell? ⟨gl, 2, none⟩ = some (.int .i64 xp))) := zq (fun w' h => ⟨(K0.out.ex h).c9.1, (K0.out.ex h).c9.2.1, (K1.out.ex h).c6.2.2.1⟩)
         refine wp_region_held_drew (S := (fun w' => (w'.cell? ⟨gm, 0, none⟩ = some (.slice A nb c) ∧ w'.cell? ⟨gm, 1, none⟩ = some (.slice (some ⟨b2, o2, none⟩) k d) ∧ w'.cell? ⟨gl, 2, none⟩ = some (.int .i64 xp)))) (by kernel_rfl) ?r12_hS0 (fun hHeld => ?_)
         case r12_hS0 => exact FK9.out _ (Ex.refl _).drew
         refine tk 0 ?_; refine tk 1 ?_; refine tk 2 ?_; refine tk 3 ?_; refine tk 4 ?_
         refine wpAnyH_ready (rs := [5]) (by kernel_rfl) (by simp) ?_
         refine AllReadyH.cons (o := ?r12_o5) ?r12_ho5 (fun K hK => ?_) AllReadyH.nil
         case r12_ho5 => (conv => lhs; whnf; arg 1; whnf)
         refine step_call_gu rfl CEK.out _ _ rfl #[.int .i64 0, .int .i64 xp] rfl (CK0.out _) ?_; rintro r wa ⟨rfl, hwa⟩; refine ⟨_, rfl, ?_⟩; have hxa := Ex.trans (Ex.refl _).drew hwa
         refine hK.out _ _ ?r12_hS5 (fun hHeld5 => ?_)
         case r12_hS5 => exact FK9.out _ hxa
         clear hK K hHeld
         try simp only [Act.put, List.setIfInBounds_toArray, List.set_cons_zero, List.set_cons_succ]
         refine wpAnyH_ready (rs := [6]) (by kernel_rfl) (by simp) ?_
         refine AllReadyH.cons (o := ?r12_o6) ?r12_ho6 (fun K hK => ?_) AllReadyH.nil
         case r12_ho6 => (conv => lhs; whnf; arg 1; whnf)
         refine step_call_gu rfl CEF.out _ _ rfl #[.agg #[.slice A nb c, .slice (some ⟨b2, o2, none⟩) k d], .agg #[.int .i64 kk.space, .int .i64 kk.page]] rfl (CF0.out _ (HF.out.ex ((HQ.out.trans EW.out).trans hxa))) ?_; rintro r w3 ⟨rfl, he⟩; refine ⟨_, rfl, ?_⟩; have hx3 := Ex.trans hxa he
         refine hK.out _ _ ?r12_hS6 (fun hHeld6 => ?_)
         case r12_hS6 => exact FK9.out _ hx3
         clear hK K hHeld5
         try simp only [Act.put, List.setIfInBounds_toArray, List.set_cons_zero, List.set_cons_succ]
         refine tk 7 ?_
         refine wpAnyH_done (by kernel_rfl) ?_ _
         have HX3 := zq hx3
         clear hx3 hxa he hwa
         go_wp2_with fail
         have FK10 : Hid (∀ w', Ex w3 w' → (w'.cell? ⟨gl, 3, none⟩ = some (.int .i64 (i : Int)) ∧ w'.cell? ⟨gl, 4, none⟩ = some (.int .i64 xr) ∧ w'.cell? ⟨gm, 1, none⟩ = some (.slice (some ⟨b2, o2, none⟩) k d) ∧ w'.cell? ⟨b2, o2 + i * 5 + 3, none⟩ = some (.int .i64 f.rights))) := zq (fun w' h => ⟨(K1.out.ex (HX3.out.trans h)).c6.2.2.2.1, (K1.out.ex (HX3.out.trans h)).c6.2.2.2.2.1, (K0.out.ex (HX3.out.trans h)).c9.2.1, (((EW.out.trans HX3.out).trans h).cell HB2.out).trans Z3.out⟩)
         refine wp_region_held_drew (S := (fun w' => (w'.cell? ⟨gl, 3, none⟩ = some (.int .i64 (i : Int)) ∧ w'.cell? ⟨gl, 4, none⟩ = some (.int .i64 xr) ∧ w'.cell? ⟨gm, 1, none⟩ = some (.slice (some ⟨b2, o2, none⟩) k d) ∧ w'.cell? ⟨b2, o2 + i * 5 + 3, none⟩ = some (.int .i64 f.rights)))) (by kernel_rfl) ?r13_hS0 (fun hHeld => ?_)
         case r13_hS0 => exact FK10.out _ (Ex.refl _).drew
         refine tk 0 ?_; refine tk 1 ?_; refine tk 2 ?_; refine tk 3 ?_; refine tk 4 ?_; refine tk 5 ?_; refine tk 6 ?_; refine tk 7 ?_; refine tk 8 ?_; refine tk 9 ?_; refine tk 10 ?_; refine tk 11 ?_; refine tk 12 ?_; refine tk 13 ?_
         refine tk 14 ?_; refine tk 15 ?_; refine tk 16 ?_; refine tk 17 ?_; refine tk 18 ?_; refine tk 19 ?_
         refine wpAnyH_done (by kernel_rfl) ?_ _
         go_wp2
         go_ret
         exact HNO.out _ ((HQ.out.trans EW.out).trans HX3.out).drew HBAD.out
        have HFF := zq (HNEXT.out (fun _ => HIFF.out.2 ⟨hfr, hr⟩))
        clear HIFF
        subst hfr
        subst hr
        go_wp2_with fail
        obtain ⟨w0, hw0⟩ : ∃ w0 : World, w0 = wr.alloc (.cells #[.bool true, .int .i64 (-1), .int .i64 xp, .int .i64 (i : Int), .int .i64 f.rights, .bool true] 64) := ⟨_, rfl⟩
        obtain ⟨gl, hgl⟩ : ∃ gl : Nat, gl = wr.heap.size := ⟨_, rfl⟩
        have K0 : Hid (Blk w0 gm 34 [.slice A nb c, .slice (some ⟨b2, o2, none⟩) k d, .slice (some ⟨b3, o3, none⟩) nl e, .int .i64 m.cache.hand, .int .i64 m.tags.count, .int .i64 m.tags.next, .int .i64 m.tags.round, .slice O no g, .int .i64 m.space]) := zq (by rw [hw0]; exact KQ.out.alloc _)
        have K1 : Hid (Blk w0 gl 64 [.bool true, .int .i64 (-1), .int .i64 xp, .int .i64 (i : Int), .int .i64 f.rights, .bool true]) := zq (by rw [hw0, hgl]; exact Blk.new wr _ _)
        have EW : Hid (Ex wr w0) := zq (by rw [hw0]; exact (Ex.refl wr).alloc _)
        rw [← hw0]
        rw [← hgl]
        clear hw0 hgl
        clear q0 q1 q2 q3 q4 q5 q6 q7 q8 jM k0 k1 k2 k3 k4 k5
        have FK9 : Hid (∀ w', Ex w0 w' → (w'.cell? ⟨gm, 0, none⟩ = some (.slice A nb c) ∧ w'.cell? ⟨gm, 1, none⟩ = some (.slice (some ⟨b2, o2, none⟩) k d) ∧ w'.cell? ⟨gl, 2, none⟩ = some (.int .i64 xp))) := zq (fun w' h => ⟨(K0.out.ex h).c9.1, (K0.out.ex h).c9.2.1, (K1.out.ex h).c6.2.2.1⟩)
        refine wp_region_held_drew (S := (fun w' => (w'.cell? ⟨gm, 0, none⟩ = some (.slice A nb c) ∧ w'.cell? ⟨gm, 1, none⟩ = some (.slice (some ⟨b2, o2, none⟩) k d) ∧ w'.cell? ⟨gl, 2, none⟩ = some (.int .i64 xp)))) (by kernel_rfl) ?r14_hS0 (fun hHeld => ?_)
        case r14_hS0 => exact FK9.out _ (Ex.refl _).drew
        refine tk 0 ?_; refine tk 1 ?_; refine tk 2 ?_; refine tk 3 ?_; refine tk 4 ?_
        refine wpAnyH_ready (rs := [5]) (by kernel_rfl) (by simp) ?_
        refine AllReadyH.cons (o := ?r14_o5) ?r14_ho5 (fun K hK => ?_) AllReadyH.nil
        case r14_ho5 => (conv => lhs; whnf; arg 1; whnf)
        refine step_call_gu rfl CEK.out _ _ rfl #[.int .i64 0, .int .i64 xp] rfl (CK0.out _) ?_; rintro r wa ⟨rfl, hwa⟩; refine ⟨_, rfl, ?_⟩; have hxa := Ex.trans (Ex.refl _).drew hwa
        refine hK.out _ _ ?r14_hS5 (fun hHeld5 => ?_)
        case r14_hS5 => exact FK9.out _ hxa
        clear hK K hHeld
        try simp only [Act.put, List.setIfInBounds_toArray, List.set_cons_zero, List.set_cons_succ]
        refine wpAnyH_ready (rs := [6]) (by kernel_rfl) (by simp) ?_
        refine AllReadyH.cons (o := ?r14_o6) ?r14_ho6 (fun K hK => ?_) AllReadyH.nil
        case r14_ho6 => (conv => lhs; whnf; arg 1; whnf)
        refine step_call_gu rfl CEF.out _ _ rfl #[.agg #[.slice A nb c, .slice (some ⟨b2, o2, none⟩) k d], .agg #[.int .i64 kk.space, .int .i64 kk.page]] rfl (CF0.out _ (HF.out.ex ((HQ.out.trans EW.out).trans hxa))) ?_; rintro r w3 ⟨rfl, he⟩; refine ⟨_, rfl, ?_⟩; have hx3 := Ex.trans hxa he
        refine hK.out _ _ ?r14_hS6 (fun hHeld6 => ?_)
        case r14_hS6 => exact FK9.out _ hx3
        clear hK K hHeld5
        try simp only [Act.put, List.setIfInBounds_toArray, List.set_cons_zero, List.set_cons_succ]
        refine tk 7 ?_
        refine wpAnyH_done (by kernel_rfl) ?_ _
        have HX3 := zq hx3
        clear hx3 hxa he hwa
        go_wp2_with fail
        have FK10 : Hid (∀ w', Ex w3 w' → (w'.cell? ⟨gl, 3, none⟩ = some (.int .i64 (i : Int)) ∧ w'.cell? ⟨gl, 4, none⟩ = some (.int .i64 f.rights) ∧ w'.cell? ⟨gm, 1, none⟩ = some (.slice (some ⟨b2, o2, none⟩) k d) ∧ w'.cell? ⟨b2, o2 + i * 5 + 3, none⟩ = some (.int .i64 f.rights))) := zq (fun w' h => ⟨(K1.out.ex (HX3.out.trans h)).c6.2.2.2.1, (K1.out.ex (HX3.out.trans h)).c6.2.2.2.2.1, (K0.out.ex (HX3.out.trans h)).c9.2.1, (((EW.out.trans HX3.out).trans h).cell HB2.out).trans Z3.out⟩)
        refine wp_region_held_drew (S := (fun w' => (w'.cell? ⟨gl, 3, none⟩ = some (.int .i64 (i : Int)) ∧ w'.cell? ⟨gl, 4, none⟩ = some (.int .i64 f.rights) ∧ w'.cell? ⟨gm, 1, none⟩ = some (.slice (some ⟨b2, o2, none⟩) k d) ∧ w'.cell? ⟨b2, o2 + i * 5 + 3, none⟩ = some (.int .i64 f.rights)))) (by kernel_rfl) ?r15_hS0 (fun hHeld => ?_)
        case r15_hS0 => exact FK10.out _ (Ex.refl _).drew
        refine tk 0 ?_; refine tk 1 ?_; refine tk 2 ?_; refine tk 3 ?_; refine tk 4 ?_; refine tk 5 ?_; refine tk 6 ?_; refine tk 7 ?_; refine tk 8 ?_; refine tk 9 ?_; refine tk 10 ?_; refine tk 11 ?_; refine tk 12 ?_; refine tk 13 ?_
        refine tk 14 ?_; refine tk 15 ?_; refine tk 16 ?_; refine tk 17 ?_; refine tk 18 ?_; refine tk 19 ?_
        refine wpAnyH_done (by kernel_rfl) ?_ _
        go_wp2
        go_roundw
        case rel => exact ⟨q + 1, by omega, by go_num, ((HQ4.out.trans EW.out).trans HX3.out).drew, HFF.out⟩
        case measure => simp [intOf]; omega
      ·have HBAD : Hid (¬ MachOk m) := zq (fun h => hpg ((h.2.2 q _ HXI.out rfl).1.1 htg))
       subst htg
       cases xw
       all_goals
        go_wp2
        go_ret
        exact HNO.out _ (HQ.out.alloc _) HBAD.out
     ·have hb1 : (xt == -1) = false := by simpa using htg
      by_cases hpg : 128 ≤ xp
      ·have HBAD : Hid (¬ MachOk m) := zq (fun h => htg ((h.2.2 q _ HXI.out rfl).1.2 hpg))
       cases xw
       all_goals
        go_wp2
        go_ret
        exact HNO.out _ (HQ.out.alloc _) HBAD.out
      ·cases xw
       rotate_left
       ·have HBAD : Hid (¬ MachOk m) := zq (fun h => htg ((h.2.2 q _ HXI.out rfl).2.2.2 rfl))
        go_wp2
        go_ret
        exact HNO.out _ (HQ.out.alloc _) HBAD.out
       cases hso : (spaceOf m.tags xt).2
       ·have HBAD : Hid (¬ MachOk m) := zq (fun h => by have h1 : (spaceOf m.tags xt).2 = true := (h.2.2 q _ HXI.out rfl).2.1 htg; rw [hso] at h1; cases h1)
        go_wp2_with fail
        refine (CT.out xt _ ((HO.out.ex HQ.out).alloc _)).mono ?_
        rw [hso]
        rintro r w0 ⟨rfl, he⟩
        clear hso
        go_wp2
        go_ret
        exact HNO.out _ ((HQ.out.alloc _).trans he) HBAD.out
       ·have hq : lineAt m ⟨true, xt, xp, xf, xr, false⟩ = findF m.table (keyFor (spaceOf m.tags xt).1 xp) := by unfold lineAt lineSpace; rw [if_neg htg]
        have HT1 : Hid (xt = -1 ↔ 128 ≤ xp) := zq (by simp [htg, hpg])
        have HT2 : Hid (xt ≠ -1 → (spaceOf m.tags xt).2 = true) := zq (fun h => hso)
        have HT3 : Hid (false = true → xt = -1) := zq (fun h => by cases h)
        have CT := zq (CT.out xt)
        rw [hso] at CT
        generalize (spaceOf m.tags xt).1 = sp at CT hq
        clear hso
        have CK0 := zq (fun w' => CK.out sp xp w')
        generalize keyFor sp xp = kk at hq CK0
        have CF0 := zq (fun w' h => CF.out kk w' h)
        rcases findF_range (t := m.table) kk with hm | ⟨i, f, hm, hfi⟩
        ·have HBAD : Hid (¬ MachOk m) := zq (fun h => by obtain ⟨i, f, h1, _⟩ := (h.2.2 q _ HXI.out rfl).2.2.1; rw [hq, hm] at h1; omega)
         rw [hm] at CF0
         clear hq hm
         go_wp2_with fail
         refine (CT.out _ ((HO.out.ex HQ.out).alloc _)).mono ?_
         rintro r w0 ⟨rfl, he⟩
         obtain ⟨gl, hgl⟩ : ∃ gl : Nat, gl = wr.heap.size := ⟨_, rfl⟩
         have K0 : Hid (Blk w0 gm 34 [.slice A nb c, .slice B k d, .slice (some ⟨b3, o3, none⟩) nl e, .int .i64 m.cache.hand, .int .i64 m.tags.count, .int .i64 m.tags.next, .int .i64 m.tags.round, .slice O no g, .int .i64 m.space]) := zq ((KQ.out.alloc _).ex he)
         have K1 : Hid (Blk w0 gl 64 [.bool true, .int .i64 xt, .int .i64 xp, .int .i64 xf, .int .i64 xr, .bool false]) := zq (by rw [hgl]; exact (Blk.new wr _ _).ex he)
         have EW : Hid (Ex wr w0) := zq (((Ex.refl wr).alloc _).trans he)
         clear he
         rw [← hgl]
         clear hgl q0 q1 q2 q3 q4 q5 q6 q7 q8 jM k0 k1 k2 k3 k4 k5
         obtain ⟨q0, q1, q2, q3, q4, q5, q6, q7, q8⟩ := K0.out.c9
         obtain ⟨k0, k1, k2, k3, k4, k5⟩ := K1.out.c6
         have jM := K0.out.lt
         have jL := K1.out.lt
         go_wp2_with fail
         clear jL
         clear q0 q1 q2 q3 q4 q5 q6 q7 q8 jM k0 k1 k2 k3 k4 k5
         have FK9 : Hid (∀ w', Ex w0 w' → (w'.cell? ⟨gm, 0, none⟩ = some (.slice A nb c) ∧ w'.cell? ⟨gm, 1, none⟩ = some (.slice B k d) ∧ w'.cell? ⟨gl, 2, none⟩ = some (.int .i64 xp))) := zq (fun w' h => ⟨(K0.out.ex h).c9.1, (K0.out.ex h).c9.2.1, (K1.out.ex h).c6.2.2.1⟩)
         refine wp_region_held_drew (S := (fun w' => (w'.cell? ⟨gm, 0, none⟩ = some (.slice A nb c) ∧ w'.cell? ⟨gm, 1, none⟩ = some (.slice B k d) ∧ w'.cell? ⟨gl, 2, none⟩ = some (.int .i64 xp)))) (by kernel_rfl) ?r16_hS0 (fun hHeld => ?_)
         case r16_hS0 => exact FK9.out _ (Ex.refl _).drew
         refine tk 0 ?_; refine tk 1 ?_; refine tk 2 ?_; refine tk 3 ?_; refine tk 4 ?_
         refine wpAnyH_ready (rs := [5]) (by kernel_rfl) (by simp) ?_
         refine AllReadyH.cons (o := ?r16_o5) ?r16_ho5 (fun K hK => ?_) AllReadyH.nil
         case r16_ho5 => (conv => lhs; whnf; arg 1; whnf)
         refine step_call_gu rfl CEK.out _ _ rfl #[.int .i64 sp, .int .i64 xp] rfl (CK0.out _) ?_; rintro r wa ⟨rfl, hwa⟩; refine ⟨_, rfl, ?_⟩; have hxa := Ex.trans (Ex.refl _).drew hwa
         refine hK.out _ _ ?r16_hS5 (fun hHeld5 => ?_)
         case r16_hS5 => exact FK9.out _ hxa
         clear hK K hHeld
         try simp only [Act.put, List.setIfInBounds_toArray, List.set_cons_zero, List.set_cons_succ]
         refine wpAnyH_ready (rs := [6]) (by kernel_rfl) (by simp) ?_
         refine AllReadyH.cons (o := ?r16_o6) ?r16_ho6 (fun K hK => ?_) AllReadyH.nil
         case r16_ho6 => (conv => lhs; whnf; arg 1; whnf)
         refine step_call_gu rfl CEF.out _ _ rfl #[.agg #[.slice A nb c, .slice B k d], .agg #[.int .i64 kk.space, .int .i64 kk.page]] rfl (CF0.out _ (HF.out.ex ((HQ.out.trans EW.out).trans hxa))) ?_; rintro r w3 ⟨rfl, he⟩; refine ⟨_, rfl, ?_⟩; have hx3 := Ex.trans hxa he
         refine hK.out _ _ ?r16_hS6 (fun hHeld6 => ?_)
         case r16_hS6 => exact FK9.out _ hx3
         clear hK K hHeld5
         try simp only [Act.put, List.setIfInBounds_toArray, List.set_cons_zero, List.set_cons_succ]
         refine tk 7 ?_
         refine wpAnyH_done (by kernel_rfl) ?_ _
         have HX3 := zq hx3
         clear hx3 hxa he hwa
         go_wp2_with fail
         have FK10 : Hid (∀ w', Ex w3 w' → True) := zq (fun w' h => trivial)
         refine wp_region_held_drew (S := (fun w' => True)) (by kernel_rfl) ?r17_hS0 (fun hHeld => ?_)
         case r17_hS0 => exact FK10.out _ (Ex.refl _).drew
         refine tk 0 ?_; refine tk 1 ?_; refine tk 2 ?_; refine tn 3 ?_; refine tn 4 ?_; refine tn 5 ?_; refine tn 6 ?_; refine tk 7 ?_; refine tk 8 ?_; refine tn 9 ?_; refine tn 10 ?_; refine tn 11 ?_; refine tn 12 ?_; refine tn 13 ?_
         refine tn 14 ?_; refine tn 15 ?_; refine tn 16 ?_; refine tn 17 ?_; refine tn 18 ?_; refine tk 19 ?_
         refine wpAnyH_done (by kernel_rfl) ?_ _
         go_wp2
         go_ret
         exact HNO.out _ ((HQ.out.trans EW.out).trans HX3.out).drew HBAD.out
        rw [hm] at CF0 hq
        have hin : i < k := by have := getElem?_lt hfi; have := HN.out; omega
        obtain ⟨b2, o2, f', rfl, hb2, hfi', z0, z1, z2, z3, z4⟩ := (HF.out.ex HQ.out).frame (k := i) (getElem?_lt hfi)
        have e : f = f' := by rw [hfi] at hfi'; injection hfi'
        subst e
        have HB2 := zq hb2
        have Z3 := zq z3
        have HIFF : Hid (LineFits m ⟨true, xt, xp, xf, xr, false⟩ ↔ (i : Int) = xf ∧ f.rights = xr) := zq (by
         constructor
         ·rintro ⟨_, _, ⟨i', f', h1, h2, h3, h4⟩, h5⟩
          have e : i' = i := by rw [hq] at h1; omega
          subst e
          rw [hfi] at h3
          injection h3 with h3
          rw [h3]
          exact ⟨h2, h4⟩
         ·rintro ⟨h1, h2⟩
          exact ⟨HT1.out, HT2.out, ⟨i, f, hq, h1, hfi, h2⟩, HT3.out⟩)
        clear hb2 z0 z1 z2 z3 z4 hq hm hfi hfi'
        have hi0 : ¬ (i : Int) < 0 := by omega
        by_cases hfr : (i : Int) = xf
        rotate_left
        ·have HBAD : Hid (¬ MachOk m) := zq (fun h => hfr (HIFF.out.1 (h.2.2 q _ HXI.out rfl)).1)
         have hbb : ((i : Int) == xf) = false := by simpa using hfr
         have hbn : ((i : Int) != xf) = true := by simpa using hfr
         have hbm : (!((i : Int) == xf)) = true := by simpa using hfr
         go_wp2_with fail
         refine (CT.out _ ((HO.out.ex HQ.out).alloc _)).mono ?_
         rintro r w0 ⟨rfl, he⟩
         obtain ⟨gl, hgl⟩ : ∃ gl : Nat, gl = wr.heap.size := ⟨_, rfl⟩
         have K0 : Hid (Blk w0 gm 34 [.slice A nb c, .slice (some ⟨b2, o2, none⟩) k d, .slice (some ⟨b3, o3, none⟩) nl e, .int .i64 m.cache.hand, .int .i64 m.tags.count, .int .i64 m.tags.next, .int .i64 m.tags.round, .slice O no g, .int .i64 m.space]) := zq ((KQ.out.alloc _).ex he)
         have K1 : Hid (Blk w0 gl 64 [.bool true, .int .i64 xt, .int .i64 xp, .int .i64 xf, .int .i64 xr, .bool false]) := zq (by rw [hgl]; exact (Blk.new wr _ _).ex he)
         have EW : Hid (Ex wr w0) := zq (((Ex.refl wr).alloc _).trans he)
         clear he
         rw [← hgl]
         clear hgl q0 q1 q2 q3 q4 q5 q6 q7 q8 jM k0 k1 k2 k3 k4 k5
         obtain ⟨q0, q1, q2, q3, q4, q5, q6, q7, q8⟩ := K0.out.c9
         obtain ⟨k0, k1, k2, k3, k4, k5⟩ := K1.out.c6
         have jM := K0.out.lt
         have jL := K1.out.lt
         go_wp2_with fail
         clear jL
         clear q0 q1 q2 q3 q4 q5 q6 q7 q8 jM k0 k1 k2 k3 k4 k5
         have FK9 : Hid (∀ w', Ex w0 w' → (w'.cell? ⟨gm, 0, none⟩ = some (.slice A nb c) ∧ w'.cell? ⟨gm, 1, none⟩ = some (.slice (some ⟨b2, o2, none⟩) k d) ∧ w'.cell? ⟨gl, 2, none⟩ = some (.int .i64 xp))) := zq (fun w' h => ⟨(K0.out.ex h).c9.1, (K0.out.ex h).c9.2.1, (K1.out.ex h).c6.2.2.1⟩)
         refine wp_region_held_drew (S := (fun w' => (w'.cell? ⟨gm, 0, none⟩ = some (.slice A nb c) ∧ w'.cell? ⟨gm, 1, none⟩ = some (.slice (some ⟨b2, o2, none⟩) k d) ∧ w'.cell? ⟨gl, 2, none⟩ = some (.int .i64 xp)))) (by kernel_rfl) ?r18_hS0 (fun hHeld => ?_)
         case r18_hS0 => exact FK9.out _ (Ex.refl _).drew
         refine tk 0 ?_; refine tk 1 ?_; refine tk 2 ?_; refine tk 3 ?_; refine tk 4 ?_
         refine wpAnyH_ready (rs := [5]) (by kernel_rfl) (by simp) ?_
         refine AllReadyH.cons (o := ?r18_o5) ?r18_ho5 (fun K hK => ?_) AllReadyH.nil
         case r18_ho5 => (conv => lhs; whnf; arg 1; whnf)
         refine step_call_gu rfl CEK.out _ _ rfl #[.int .i64 sp, .int .i64 xp] rfl (CK0.out _) ?_; rintro r wa ⟨rfl, hwa⟩; refine ⟨_, rfl, ?_⟩; have hxa := Ex.trans (Ex.refl _).drew hwa
         refine hK.out _ _ ?r18_hS5 (fun hHeld5 => ?_)
         case r18_hS5 => exact FK9.out _ hxa
         clear hK K hHeld
         try simp only [Act.put, List.setIfInBounds_toArray, List.set_cons_zero, List.set_cons_succ]
         refine wpAnyH_ready (rs := [6]) (by kernel_rfl) (by simp) ?_
         refine AllReadyH.cons (o := ?r18_o6) ?r18_ho6 (fun K hK => ?_) AllReadyH.nil
         case r18_ho6 => (conv => lhs; whnf; arg 1; whnf)
         refine step_call_gu rfl CEF.out _ _ rfl #[.agg #[.slice A nb c, .slice (some ⟨b2, o2, none⟩) k d], .agg #[.int .i64 kk.space, .int .i64 kk.page]] rfl (CF0.out _ (HF.out.ex ((HQ.out.trans EW.out).trans hxa))) ?_; rintro r w3 ⟨rfl, he⟩; refine ⟨_, rfl, ?_⟩; have hx3 := Ex.trans hxa he
         refine hK.out _ _ ?r18_hS6 (fun hHeld6 => ?_)
         case r18_hS6 => exact FK9.out _ hx3
         clear hK K hHeld5
         try simp only [Act.put, List.setIfInBounds_toArray, List.set_cons_zero, List.set_cons_succ]
         refine tk 7 ?_
         refine wpAnyH_done (by kernel_rfl) ?_ _
         have HX3 := zq hx3
         clear hx3 hxa he hwa
         go_wp2_with fail
         have FK10 : Hid (∀ w', Ex w3 w' → (w'.cell? ⟨gl, 3, none⟩ = some (.int .i64 xf))) := zq (fun w' h => (K1.out.ex (HX3.out.trans h)).c6.2.2.2.1)
         refine wp_region_held_drew (S := (fun w' => (w'.cell? ⟨gl, 3, none⟩ = some (.int .i64 xf)))) (by kernel_rfl) ?r19_hS0 (fun hHeld => ?_)
         case r19_hS0 => exact FK10.out _ (Ex.refl _).drew
         refine tk 0 ?_; refine tk 1 ?_; refine tk 2 ?_; refine tk 3 ?_; refine tk 4 ?_; refine tk 5 ?_; refine tk 6 ?_; refine tk 7 ?_; refine tk 8 ?_; refine tn 9 ?_; refine tn 10 ?_; refine tn 11 ?_; refine tn 12 ?_; refine tn 13 ?_
         refine tn 14 ?_; refine tn 15 ?_; refine tn 16 ?_; refine tn 17 ?_; refine tn 18 ?_; refine tk 19 ?_
         refine wpAnyH_done (by kernel_rfl) ?_ _
         go_wp2
         go_ret
         exact HNO.out _ ((HQ.out.trans EW.out).trans HX3.out).drew HBAD.out
        by_cases hr : f.rights = xr
        rotate_left
        ·have HBAD : Hid (¬ MachOk m) := zq (fun h => hr (HIFF.out.1 (h.2.2 q _ HXI.out rfl)).2)
         have hbb : (f.rights == xr) = false := by simpa using hr
         have hbn : (f.rights != xr) = true := by simpa using hr
         have hbm : (!(f.rights == xr)) = true := by simpa using hr
         clear HIFF
         subst hfr
         go_wp2_with fail
         refine (CT.out _ ((HO.out.ex HQ.out).alloc _)).mono ?_
         rintro r w0 ⟨rfl, he⟩
         obtain ⟨gl, hgl⟩ : ∃ gl : Nat, gl = wr.heap.size := ⟨_, rfl⟩
         have K0 : Hid (Blk w0 gm 34 [.slice A nb c, .slice (some ⟨b2, o2, none⟩) k d, .slice (some ⟨b3, o3, none⟩) nl e, .int .i64 m.cache.hand, .int .i64 m.tags.count, .int .i64 m.tags.next, .int .i64 m.tags.round, .slice O no g, .int .i64 m.space]) := zq ((KQ.out.alloc _).ex he)
         have K1 : Hid (Blk w0 gl 64 [.bool true, .int .i64 xt, .int .i64 xp, .int .i64 (i : Int), .int .i64 xr, .bool false]) := zq (by rw [hgl]; exact (Blk.new wr _ _).ex he)
         have EW : Hid (Ex wr w0) := zq (((Ex.refl wr).alloc _).trans he)
         clear he
         rw [← hgl]
         clear hgl q0 q1 q2 q3 q4 q5 q6 q7 q8 jM k0 k1 k2 k3 k4 k5
         obtain ⟨q0, q1, q2, q3, q4, q5, q6, q7, q8⟩ := K0.out.c9
         obtain ⟨k0, k1, k2, k3, k4, k5⟩ := K1.out.c6
         have jM := K0.out.lt
         have jL := K1.out.lt
         go_wp2_with fail
         clear jL
         clear q0 q1 q2 q3 q4 q5 q6 q7 q8 jM k0 k1 k2 k3 k4 k5
         have FK9 : Hid (∀ w', Ex w0 w' → (w'.cell? ⟨gm, 0, none⟩ = some (.slice A nb c) ∧ w'.cell? ⟨gm, 1, none⟩ = some (.slice (some ⟨b2, o2, none⟩) k d) ∧ w'.cell? ⟨gl, 2, none⟩ = some (.int .i64 xp))) := zq (fun w' h => ⟨(K0.out.ex h).c9.1, (K0.out.ex h).c9.2.1, (K1.out.ex h).c6.2.2.1⟩)
         refine wp_region_held_drew (S := (fun w' => (w'.cell? ⟨gm, 0, none⟩ = some (.slice A nb c) ∧ w'.cell? ⟨gm, 1, none⟩ = some (.slice (some ⟨b2, o2, none⟩) k d) ∧ w'.cell? ⟨gl, 2, none⟩ = some (.int .i64 xp)))) (by kernel_rfl) ?r20_hS0 (fun hHeld => ?_)
         case r20_hS0 => exact FK9.out _ (Ex.refl _).drew
         refine tk 0 ?_; refine tk 1 ?_; refine tk 2 ?_; refine tk 3 ?_; refine tk 4 ?_
         refine wpAnyH_ready (rs := [5]) (by kernel_rfl) (by simp) ?_
         refine AllReadyH.cons (o := ?r20_o5) ?r20_ho5 (fun K hK => ?_) AllReadyH.nil
         case r20_ho5 => (conv => lhs; whnf; arg 1; whnf)
         refine step_call_gu rfl CEK.out _ _ rfl #[.int .i64 sp, .int .i64 xp] rfl (CK0.out _) ?_; rintro r wa ⟨rfl, hwa⟩; refine ⟨_, rfl, ?_⟩; have hxa := Ex.trans (Ex.refl _).drew hwa
         refine hK.out _ _ ?r20_hS5 (fun hHeld5 => ?_)
         case r20_hS5 => exact FK9.out _ hxa
         clear hK K hHeld
         try simp only [Act.put, List.setIfInBounds_toArray, List.set_cons_zero, List.set_cons_succ]
         refine wpAnyH_ready (rs := [6]) (by kernel_rfl) (by simp) ?_
         refine AllReadyH.cons (o := ?r20_o6) ?r20_ho6 (fun K hK => ?_) AllReadyH.nil
         case r20_ho6 => (conv => lhs; whnf; arg 1; whnf)
         refine step_call_gu rfl CEF.out _ _ rfl #[.agg #[.slice A nb c, .slice (some ⟨b2, o2, none⟩) k d], .agg #[.int .i64 kk.space, .int .i64 kk.page]] rfl (CF0.out _ (HF.out.ex ((HQ.out.trans EW.out).trans hxa))) ?_; rintro r w3 ⟨rfl, he⟩; refine ⟨_, rfl, ?_⟩; have hx3 := Ex.trans hxa he
         refine hK.out _ _ ?r20_hS6 (fun hHeld6 => ?_)
         case r20_hS6 => exact FK9.out _ hx3
         clear hK K hHeld5
         try simp only [Act.put, List.setIfInBounds_toArray, List.set_cons_zero, List.set_cons_succ]
         refine tk 7 ?_
         refine wpAnyH_done (by kernel_rfl) ?_ _
         have HX3 := zq hx3
         clear hx3 hxa he hwa
         go_wp2_with fail
         have FK10 : Hid (∀ w', Ex w3 w' → (w'.cell? ⟨gl, 3, none⟩ = some (.int .i64 (i : Int)) ∧ w'.cell? ⟨gl, 4, none⟩ = some (.int .i64 xr) ∧ w'.cell? ⟨gm, 1, none⟩ = some (.slice (some ⟨b2, o2, none⟩) k d) ∧ w'.cell? ⟨b2, o2 + i * 5 + 3, none⟩ = some (.int .i64 f.rights))) := zq (fun w' h => ⟨(K1.out.ex (HX3.out.trans h)).c6.2.2.2.1, (K1.out.ex (HX3.out.trans h)).c6.2.2.2.2.1, (K0.out.ex (HX3.out.trans h)).c9.2.1, (((EW.out.trans HX3.out).trans h).cell HB2.out).trans Z3.out⟩)
         refine wp_region_held_drew (S := (fun w' => (w'.cell? ⟨gl, 3, none⟩ = some (.int .i64 (i : Int)) ∧ w'.cell? ⟨gl, 4, none⟩ = some (.int .i64 xr) ∧ w'.cell? ⟨gm, 1, none⟩ = some (.slice (some ⟨b2, o2, none⟩) k d) ∧ w'.cell? ⟨b2, o2 + i * 5 + 3, none⟩ = some (.int .i64 f.rights)))) (by kernel_rfl) ?r21_hS0 (fun hHeld => ?_)
         case r21_hS0 => exact FK10.out _ (Ex.refl _).drew
         refine tk 0 ?_; refine tk 1 ?_; refine tk 2 ?_; refine tk 3 ?_; refine tk 4 ?_; refine tk 5 ?_; refine tk 6 ?_; refine tk 7 ?_; refine tk 8 ?_; refine tk 9 ?_; refine tk 10 ?_; refine tk 11 ?_; refine tk 12 ?_; refine tk 13 ?_
         refine tk 14 ?_; refine tk 15 ?_; refine tk 16 ?_; refine tk 17 ?_; refine tk 18 ?_; refine tk 19 ?_
         refine wpAnyH_done (by kernel_rfl) ?_ _
         go_wp2
         go_ret
         exact HNO.out _ ((HQ.out.trans EW.out).trans HX3.out).drew HBAD.out
        have HFF := zq (HNEXT.out (fun _ => HIFF.out.2 ⟨hfr, hr⟩))
        clear HIFF
        subst hfr
        subst hr
        go_wp2_with fail
        refine (CT.out _ ((HO.out.ex HQ.out).alloc _)).mono ?_
        rintro r w0 ⟨rfl, he⟩
        obtain ⟨gl, hgl⟩ : ∃ gl : Nat, gl = wr.heap.size := ⟨_, rfl⟩
        have K0 : Hid (Blk w0 gm 34 [.slice A nb c, .slice (some ⟨b2, o2, none⟩) k d, .slice (some ⟨b3, o3, none⟩) nl e, .int .i64 m.cache.hand, .int .i64 m.tags.count, .int .i64 m.tags.next, .int .i64 m.tags.round, .slice O no g, .int .i64 m.space]) := zq ((KQ.out.alloc _).ex he)
        have K1 : Hid (Blk w0 gl 64 [.bool true, .int .i64 xt, .int .i64 xp, .int .i64 (i : Int), .int .i64 f.rights, .bool false]) := zq (by rw [hgl]; exact (Blk.new wr _ _).ex he)
        have EW : Hid (Ex wr w0) := zq (((Ex.refl wr).alloc _).trans he)
        clear he
        rw [← hgl]
        clear hgl q0 q1 q2 q3 q4 q5 q6 q7 q8 jM k0 k1 k2 k3 k4 k5
        obtain ⟨q0, q1, q2, q3, q4, q5, q6, q7, q8⟩ := K0.out.c9
        obtain ⟨k0, k1, k2, k3, k4, k5⟩ := K1.out.c6
        have jM := K0.out.lt
        have jL := K1.out.lt
        go_wp2_with fail
        clear jL
        clear q0 q1 q2 q3 q4 q5 q6 q7 q8 jM k0 k1 k2 k3 k4 k5
        have FK9 : Hid (∀ w', Ex w0 w' → (w'.cell? ⟨gm, 0, none⟩ = some (.slice A nb c) ∧ w'.cell? ⟨gm, 1, none⟩ = some (.slice (some ⟨b2, o2, none⟩) k d) ∧ w'.cell? ⟨gl, 2, none⟩ = some (.int .i64 xp))) := zq (fun w' h => ⟨(K0.out.ex h).c9.1, (K0.out.ex h).c9.2.1, (K1.out.ex h).c6.2.2.1⟩)
        refine wp_region_held_drew (S := (fun w' => (w'.cell? ⟨gm, 0, none⟩ = some (.slice A nb c) ∧ w'.cell? ⟨gm, 1, none⟩ = some (.slice (some ⟨b2, o2, none⟩) k d) ∧ w'.cell? ⟨gl, 2, none⟩ = some (.int .i64 xp)))) (by kernel_rfl) ?r22_hS0 (fun hHeld => ?_)
        case r22_hS0 => exact FK9.out _ (Ex.refl _).drew
        refine tk 0 ?_; refine tk 1 ?_; refine tk 2 ?_; refine tk 3 ?_; refine tk 4 ?_
        refine wpAnyH_ready (rs := [5]) (by kernel_rfl) (by simp) ?_
        refine AllReadyH.cons (o := ?r22_o5) ?r22_ho5 (fun K hK => ?_) AllReadyH.nil
        case r22_ho5 => (conv => lhs; whnf; arg 1; whnf)
        refine step_call_gu rfl CEK.out _ _ rfl #[.int .i64 sp, .int .i64 xp] rfl (CK0.out _) ?_; rintro r wa ⟨rfl, hwa⟩; refine ⟨_, rfl, ?_⟩; have hxa := Ex.trans (Ex.refl _).drew hwa
        refine hK.out _ _ ?r22_hS5 (fun hHeld5 => ?_)
        case r22_hS5 => exact FK9.out _ hxa
        clear hK K hHeld
        try simp only [Act.put, List.setIfInBounds_toArray, List.set_cons_zero, List.set_cons_succ]
        refine wpAnyH_ready (rs := [6]) (by kernel_rfl) (by simp) ?_
        refine AllReadyH.cons (o := ?r22_o6) ?r22_ho6 (fun K hK => ?_) AllReadyH.nil
        case r22_ho6 => (conv => lhs; whnf; arg 1; whnf)
        refine step_call_gu rfl CEF.out _ _ rfl #[.agg #[.slice A nb c, .slice (some ⟨b2, o2, none⟩) k d], .agg #[.int .i64 kk.space, .int .i64 kk.page]] rfl (CF0.out _ (HF.out.ex ((HQ.out.trans EW.out).trans hxa))) ?_; rintro r w3 ⟨rfl, he⟩; refine ⟨_, rfl, ?_⟩; have hx3 := Ex.trans hxa he
        refine hK.out _ _ ?r22_hS6 (fun hHeld6 => ?_)
        case r22_hS6 => exact FK9.out _ hx3
        clear hK K hHeld5
        try simp only [Act.put, List.setIfInBounds_toArray, List.set_cons_zero, List.set_cons_succ]
        refine tk 7 ?_
        refine wpAnyH_done (by kernel_rfl) ?_ _
        have HX3 := zq hx3
        clear hx3 hxa he hwa
        go_wp2_with fail
        have FK10 : Hid (∀ w', Ex w3 w' → (w'.cell? ⟨gl, 3, none⟩ = some (.int .i64 (i : Int)) ∧ w'.cell? ⟨gl, 4, none⟩ = some (.int .i64 f.rights) ∧ w'.cell? ⟨gm, 1, none⟩ = some (.slice (some ⟨b2, o2, none⟩) k d) ∧ w'.cell? ⟨b2, o2 + i * 5 + 3, none⟩ = some (.int .i64 f.rights))) := zq (fun w' h => ⟨(K1.out.ex (HX3.out.trans h)).c6.2.2.2.1, (K1.out.ex (HX3.out.trans h)).c6.2.2.2.2.1, (K0.out.ex (HX3.out.trans h)).c9.2.1, (((EW.out.trans HX3.out).trans h).cell HB2.out).trans Z3.out⟩)
        refine wp_region_held_drew (S := (fun w' => (w'.cell? ⟨gl, 3, none⟩ = some (.int .i64 (i : Int)) ∧ w'.cell? ⟨gl, 4, none⟩ = some (.int .i64 f.rights) ∧ w'.cell? ⟨gm, 1, none⟩ = some (.slice (some ⟨b2, o2, none⟩) k d) ∧ w'.cell? ⟨b2, o2 + i * 5 + 3, none⟩ = some (.int .i64 f.rights)))) (by kernel_rfl) ?r23_hS0 (fun hHeld => ?_)
        case r23_hS0 => exact FK10.out _ (Ex.refl _).drew
        refine tk 0 ?_; refine tk 1 ?_; refine tk 2 ?_; refine tk 3 ?_; refine tk 4 ?_; refine tk 5 ?_; refine tk 6 ?_; refine tk 7 ?_; refine tk 8 ?_; refine tk 9 ?_; refine tk 10 ?_; refine tk 11 ?_; refine tk 12 ?_; refine tk 13 ?_
        refine tk 14 ?_; refine tk 15 ?_; refine tk 16 ?_; refine tk 17 ?_; refine tk 18 ?_; refine tk 19 ?_
        refine wpAnyH_done (by kernel_rfl) ?_ _
        go_wp2
        go_roundw
        case rel => exact ⟨q + 1, by omega, by go_num, ((HQ4.out.trans EW.out).trans HX3.out).drew, HFF.out⟩
        case measure => simp [intOf]; omega
    ·obtain rfl : q = nl := by omega
     obtain ⟨q0, q1, q2, q3, q4, q5, q6, q7, q8⟩ := KQ.out.c9
     have jM := KQ.out.lt
     go_wp2
     go_ret
     exact ⟨ret_bool (machV_yes ⟨HOK.out, HFA.out, fun i x h => HALL.out i x (by have := getElem?_lt h; have := HNL.out; omega) h⟩).symm, HQ.out⟩
end Go.Proofs.YtbdlpbladpppjaaGreatDoor
