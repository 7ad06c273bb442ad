/- When is a machine valid: MachineValid of the program. -/
import Derived.Test.YtihlaecbdlgbiaaDoorVj
import Derived.Test.YtihlaecbdlgbiaaDoorWf
import Derived.Test.YtihlaecbdlgbiaaDoorMd
import Derived.Test.YtihlaecbdlgbiaaDoorTw
import Derived.Test.YtihlaecbdlgbiaaDoorCw
namespace Go.Proofs.YtihlaecbdlgbiaaDoor
open Go.ChangeShapes Go.WideShapes Go.ChangeAt Go.RowKit
open Rec (sz cs)
set_option linter.unusedVariables false
set_option maxRecDepth 100000

set_option maxHeartbeats 8000000 in
theorem machI_c (m : MachD) (a : MA) (w : World) (hx : HasM w m a) (hf : FewM m) (hc : CapM m a) (hv : FreeV w) :
    Calls Tryd.prog 9 #[.agg #[.slice a.b m.table.buckets.length a.bc, .slice a.f m.table.frames.length a.fc, .slice a.l m.cache.lines.length a.lc, .int .i64 m.cache.hand, .int .i64 m.tags.count, .int .i64 m.tags.next, .int .i64 m.tags.round, .slice a.o m.tags.owns.length a.oc, .int .i64 m.space]] w fun r w' => r = .returned (.bool (machV m)) ∧ Ex w w' := by
  obtain ⟨A, c, B, d, L, e, O, g⟩ := a
  have HB : Hid (Rd w A m.table.buckets) := Lib.hid hx.b
  have HF : Hid (Rd w B m.table.frames) := Lib.hid hx.f
  have HL : Hid (Rd w L m.cache.lines) := Lib.hid hx.l
  have HO : Hid (Rd w O m.tags.owns) := Lib.hid hx.o
  have HV := Lib.hid hv
  have C1 := Lib.hid (fun w' (h1 : Rd w' A m.table.buckets) (h2 : Rd w' B m.table.frames) (h3 : FreeV w') => tableI_c m.table A c B d w' h1 h2 hf.b hf.f h3)
  have C2 := Lib.hid (fun w' (h1 : Rd w' L m.cache.lines) => cacheValidI_c m.cache L e w' h1 hf.l hc.l)
  have C3 := Lib.hid (fun w' (h1 : Rd w' O m.tags.owns) => tagsValidI_c m.tags O g w' h1 hf.o hc.o)
  have C4 := Lib.hid (fun w' (h1 : Rd w' O m.tags.owns) => ownI_c m.tags m.space O g w' h1 hf.o)
  clear hx hv
  dsimp only
  cases h1 : tableV m.table
  · rw [machV_no (fun h => by have := tableV_yes h.1.1; rw [h1] at this; cases this)]
    rw [h1] at C1
    generalize m.table.frames.length = n at C1 ⊢
    generalize m.table.buckets.length = nb at C1 ⊢
    generalize m.cache.lines.length = nl at C2 ⊢
    generalize m.tags.owns.length = no at C3 C4 ⊢
    go_enter Tryd.func9, Tryd.ntmps9
    go_wp2_with fail
    have K0 : Hid (Blk (w.alloc (.cells #[.slice A nb c, .slice B n d, .slice L nl e, .int .i64 m.cache.hand, .int .i64 m.tags.count, .int .i64 m.tags.next, .int .i64 m.tags.round, .slice O no g, .int .i64 m.space] 46)) w.heap.size 46 [.slice A nb c, .slice B n d, .slice L nl e, .int .i64 m.cache.hand, .int .i64 m.tags.count, .int .i64 m.tags.next, .int .i64 m.tags.round, .slice O no g, .int .i64 m.space]) := Lib.hid (Blk.new w _ _)
    have E0 : Hid (Ex w (w.alloc (.cells #[.slice A nb c, .slice B n d, .slice L nl e, .int .i64 m.cache.hand, .int .i64 m.tags.count, .int .i64 m.tags.next, .int .i64 m.tags.round, .slice O no g, .int .i64 m.space] 46))) := Lib.hid ((Ex.refl w).alloc _)
    refine (C1.out _ (HB.out.ex E0.out) (HF.out.ex E0.out) (HV.out.ex E0.out)).mono ?_
    rintro r w1 ⟨rfl, he1⟩
    have E1 := Lib.hid (E0.out.trans he1)
    have K1 := Lib.hid (K0.out.ex he1)
    clear he1 E0 K0
    obtain ⟨q0, q1, q2, q3, q4, q5, q6, q7, q8⟩ := K1.out.c9
    have jM := K1.out.lt
    go_wp2
    go_ret
    exact ⟨rfl, E1.out⟩
  rw [h1] at C1
  cases h2 : cacheV m.cache
  · rw [machV_no (fun h => by have := h.1.2.1; rw [h2] at this; cases this)]
    rw [h2] at C2
    generalize m.table.frames.length = n at C1 ⊢
    generalize m.table.buckets.length = nb at C1 ⊢
    generalize m.cache.lines.length = nl at C2 ⊢
    generalize m.tags.owns.length = no at C3 C4 ⊢
    go_enter Tryd.func9, Tryd.ntmps9
    go_wp2_with fail
    have K0 : Hid (Blk (w.alloc (.cells #[.slice A nb c, .slice B n d, .slice L nl e, .int .i64 m.cache.hand, .int .i64 m.tags.count, .int .i64 m.tags.next, .int .i64 m.tags.round, .slice O no g, .int .i64 m.space] 46)) w.heap.size 46 [.slice A nb c, .slice B n d, .slice L nl e, .int .i64 m.cache.hand, .int .i64 m.tags.count, .int .i64 m.tags.next, .int .i64 m.tags.round, .slice O no g, .int .i64 m.space]) := Lib.hid (Blk.new w _ _)
    have E0 : Hid (Ex w (w.alloc (.cells #[.slice A nb c, .slice B n d, .slice L nl e, .int .i64 m.cache.hand, .int .i64 m.tags.count, .int .i64 m.tags.next, .int .i64 m.tags.round, .slice O no g, .int .i64 m.space] 46))) := Lib.hid ((Ex.refl w).alloc _)
    refine (C1.out _ (HB.out.ex E0.out) (HF.out.ex E0.out) (HV.out.ex E0.out)).mono ?_
    rintro r w1 ⟨rfl, he1⟩
    have E1 := Lib.hid (E0.out.trans he1)
    have K1 := Lib.hid (K0.out.ex he1)
    clear he1 E0 K0
    obtain ⟨q0, q1, q2, q3, q4, q5, q6, q7, q8⟩ := K1.out.c9
    have jM := K1.out.lt
    go_wp2_with fail
    clear q0 q1 q2 q3 q4 q5 q6 q7 q8 jM
    refine (C2.out _ (HL.out.ex E1.out)).mono ?_
    rintro r w2 ⟨rfl, he2⟩
    have E2 := Lib.hid (E1.out.trans he2)
    have K2 := Lib.hid (K1.out.ex he2)
    clear he2 E1 K1
    obtain ⟨q0, q1, q2, q3, q4, q5, q6, q7, q8⟩ := K2.out.c9
    have jM := K2.out.lt
    go_wp2
    go_ret
    exact ⟨rfl, E2.out⟩
  rw [h2] at C2
  cases h3 : tagsV m.tags
  · rw [machV_no (fun h => by have := h.1.2.2.1; rw [h3] at this; cases this)]
    rw [h3] at C3
    generalize m.table.frames.length = n at C1 ⊢
    generalize m.table.buckets.length = nb at C1 ⊢
    generalize m.cache.lines.length = nl at C2 ⊢
    generalize m.tags.owns.length = no at C3 C4 ⊢
    go_enter Tryd.func9, Tryd.ntmps9
    go_wp2_with fail
    have K0 : Hid (Blk (w.alloc (.cells #[.slice A nb c, .slice B n d, .slice L nl e, .int .i64 m.cache.hand, .int .i64 m.tags.count, .int .i64 m.tags.next, .int .i64 m.tags.round, .slice O no g, .int .i64 m.space] 46)) w.heap.size 46 [.slice A nb c, .slice B n d, .slice L nl e, .int .i64 m.cache.hand, .int .i64 m.tags.count, .int .i64 m.tags.next, .int .i64 m.tags.round, .slice O no g, .int .i64 m.space]) := Lib.hid (Blk.new w _ _)
    have E0 : Hid (Ex w (w.alloc (.cells #[.slice A nb c, .slice B n d, .slice L nl e, .int .i64 m.cache.hand, .int .i64 m.tags.count, .int .i64 m.tags.next, .int .i64 m.tags.round, .slice O no g, .int .i64 m.space] 46))) := Lib.hid ((Ex.refl w).alloc _)
    refine (C1.out _ (HB.out.ex E0.out) (HF.out.ex E0.out) (HV.out.ex E0.out)).mono ?_
    rintro r w1 ⟨rfl, he1⟩
    have E1 := Lib.hid (E0.out.trans he1)
    have K1 := Lib.hid (K0.out.ex he1)
    clear he1 E0 K0
    obtain ⟨q0, q1, q2, q3, q4, q5, q6, q7, q8⟩ := K1.out.c9
    have jM := K1.out.lt
    go_wp2_with fail
    clear q0 q1 q2 q3 q4 q5 q6 q7 q8 jM
    refine (C2.out _ (HL.out.ex E1.out)).mono ?_
    rintro r w2 ⟨rfl, he2⟩
    have E2 := Lib.hid (E1.out.trans he2)
    have K2 := Lib.hid (K1.out.ex he2)
    clear he2 E1 K1
    obtain ⟨q0, q1, q2, q3, q4, q5, q6, q7, q8⟩ := K2.out.c9
    have jM := K2.out.lt
    go_wp2_with fail
    clear q0 q1 q2 q3 q4 q5 q6 q7 q8 jM
    refine (C3.out _ (HO.out.ex E2.out)).mono ?_
    rintro r w3 ⟨rfl, he3⟩
    have E3 := Lib.hid (E2.out.trans he3)
    have K3 := Lib.hid (K2.out.ex he3)
    clear he3 E2 K2
    obtain ⟨q0, q1, q2, q3, q4, q5, q6, q7, q8⟩ := K3.out.c9
    have jM := K3.out.lt
    go_wp2
    go_ret
    exact ⟨rfl, E3.out⟩
  rw [h3] at C3
  by_cases h4 : ownPlace m.tags.owns m.space < 0
  · rw [machV_no (fun h => by have := h.1.2.2.2; omega)]
    generalize ownPlace m.tags.owns m.space = op at h4 C4
    generalize m.table.frames.length = n at C1 ⊢
    generalize m.table.buckets.length = nb at C1 ⊢
    generalize m.cache.lines.length = nl at C2 ⊢
    generalize m.tags.owns.length = no at C3 C4 ⊢
    go_enter Tryd.func9, Tryd.ntmps9
    go_wp2_with fail
    have K0 : Hid (Blk (w.alloc (.cells #[.slice A nb c, .slice B n d, .slice L nl e, .int .i64 m.cache.hand, .int .i64 m.tags.count, .int .i64 m.tags.next, .int .i64 m.tags.round, .slice O no g, .int .i64 m.space] 46)) w.heap.size 46 [.slice A nb c, .slice B n d, .slice L nl e, .int .i64 m.cache.hand, .int .i64 m.tags.count, .int .i64 m.tags.next, .int .i64 m.tags.round, .slice O no g, .int .i64 m.space]) := Lib.hid (Blk.new w _ _)
    have E0 : Hid (Ex w (w.alloc (.cells #[.slice A nb c, .slice B n d, .slice L nl e, .int .i64 m.cache.hand, .int .i64 m.tags.count, .int .i64 m.tags.next, .int .i64 m.tags.round, .slice O no g, .int .i64 m.space] 46))) := Lib.hid ((Ex.refl w).alloc _)
    refine (C1.out _ (HB.out.ex E0.out) (HF.out.ex E0.out) (HV.out.ex E0.out)).mono ?_
    rintro r w1 ⟨rfl, he1⟩
    have E1 := Lib.hid (E0.out.trans he1)
    have K1 := Lib.hid (K0.out.ex he1)
    clear he1 E0 K0
    obtain ⟨q0, q1, q2, q3, q4, q5, q6, q7, q8⟩ := K1.out.c9
    have jM := K1.out.lt
    go_wp2_with fail
    clear q0 q1 q2 q3 q4 q5 q6 q7 q8 jM
    refine (C2.out _ (HL.out.ex E1.out)).mono ?_
    rintro r w2 ⟨rfl, he2⟩
    have E2 := Lib.hid (E1.out.trans he2)
    have K2 := Lib.hid (K1.out.ex he2)
    clear he2 E1 K1
    obtain ⟨q0, q1, q2, q3, q4, q5, q6, q7, q8⟩ := K2.out.c9
    have jM := K2.out.lt
    go_wp2_with fail
    clear q0 q1 q2 q3 q4 q5 q6 q7 q8 jM
    refine (C3.out _ (HO.out.ex E2.out)).mono ?_
    rintro r w3 ⟨rfl, he3⟩
    have E3 := Lib.hid (E2.out.trans he3)
    have K3 := Lib.hid (K2.out.ex he3)
    clear he3 E2 K2
    obtain ⟨q0, q1, q2, q3, q4, q5, q6, q7, q8⟩ := K3.out.c9
    have jM := K3.out.lt
    go_wp2_with fail
    clear q0 q1 q2 q3 q4 q5 q6 q7 q8 jM
    refine (C4.out _ (HO.out.ex E3.out)).mono ?_
    rintro r w4 ⟨rfl, he4⟩
    have E4 := Lib.hid (E3.out.trans he4)
    have K4 := Lib.hid (K3.out.ex he4)
    clear he4 E3 K3
    obtain ⟨q0, q1, q2, q3, q4, q5, q6, q7, q8⟩ := K4.out.c9
    have jM := K4.out.lt
    go_wp2
    go_ret
    exact ⟨rfl, E4.out⟩
  have HNO : Hid (∀ w', Ex w w' → ¬ MachOk m → (Ending.returned (.bool false) = .returned (.bool (machV m)) ∧ Ex w w')) := Lib.hid (fun w' h1 h2 => ⟨ret_bool (machV_no h2).symm, h1⟩)
  have HOK : Hid (MachHead m) := Lib.hid ⟨tableV_iff.1 h1, h2, h3, by omega⟩
  have CT := Lib.hid (fun xt w' (h : Rd w' O m.tags.owns) => spaceOfI_c m.tags xt O g w' h hf.o hc.o)
  have CF := Lib.hid (fun kk w' (h : Rd w' B m.table.frames) => findI_c m.table A c B d kk w' h hf.f)
  have CK := Lib.hid (fun s xp w' => keyForI_c s xp w')
  have CEK : Hid (∀ (args : Array Value) (w : World), (callFunc 35 args).run Tryd.prog w = .ok (.enter 35 args) w) := Lib.hid (enters Tryd.func35 (by kernel_rfl) (by kernel_rfl))
  have CEF : Hid (∀ (args : Array Value) (w : World), (callFunc 34 args).run Tryd.prog w = .ok (.enter 34 args) w) := Lib.hid (enters Tryd.func34 (by kernel_rfl) (by kernel_rfl))
  generalize ownPlace m.tags.owns m.space = op at h4 C4
  obtain ⟨n, en⟩ : ∃ n, n = m.table.frames.length := ⟨_, rfl⟩
  obtain ⟨nl, el⟩ : ∃ n, n = m.cache.lines.length := ⟨_, rfl⟩
  have HN := Lib.hid en
  have HNL := Lib.hid el
  have hfl : nl ≤ 1048576 := by rw [el]; exact hf.l
  have hfn : n ≤ 1048576 := by rw [en]; exact hf.f
  rw [← en] at C1 CF ⊢
  rw [← el] at C2 ⊢
  generalize m.table.buckets.length = nb at C1 CF ⊢
  generalize m.tags.owns.length = no at C3 C4 CT ⊢
  clear en el hf hc h1 h2 h3
  go_enter Tryd.func9, Tryd.ntmps9
  go_wp2_with fail
  have K0 : Hid (Blk (w.alloc (.cells #[.slice A nb c, .slice B n d, .slice L nl e, .int .i64 m.cache.hand, .int .i64 m.tags.count, .int .i64 m.tags.next, .int .i64 m.tags.round, .slice O no g, .int .i64 m.space] 46)) w.heap.size 46 [.slice A nb c, .slice B n d, .slice L nl e, .int .i64 m.cache.hand, .int .i64 m.tags.count, .int .i64 m.tags.next, .int .i64 m.tags.round, .slice O no g, .int .i64 m.space]) := Lib.hid (Blk.new w _ _)
  have E0 : Hid (Ex w (w.alloc (.cells #[.slice A nb c, .slice B n d, .slice L nl e, .int .i64 m.cache.hand, .int .i64 m.tags.count, .int .i64 m.tags.next, .int .i64 m.tags.round, .slice O no g, .int .i64 m.space] 46))) := Lib.hid ((Ex.refl w).alloc _)
  refine (C1.out _ (HB.out.ex E0.out) (HF.out.ex E0.out) (HV.out.ex E0.out)).mono ?_
  rintro r w1 ⟨rfl, he1⟩
  have E1 := Lib.hid (E0.out.trans he1)
  have K1 := Lib.hid (K0.out.ex he1)
  clear he1 E0 K0
  obtain ⟨q0, q1, q2, q3, q4, q5, q6, q7, q8⟩ := K1.out.c9
  have jM := K1.out.lt
  go_wp2_with fail
  clear q0 q1 q2 q3 q4 q5 q6 q7 q8 jM
  refine (C2.out _ (HL.out.ex E1.out)).mono ?_
  rintro r w2 ⟨rfl, he2⟩
  have E2 := Lib.hid (E1.out.trans he2)
  have K2 := Lib.hid (K1.out.ex he2)
  clear he2 E1 K1
  obtain ⟨q0, q1, q2, q3, q4, q5, q6, q7, q8⟩ := K2.out.c9
  have jM := K2.out.lt
  go_wp2_with fail
  clear q0 q1 q2 q3 q4 q5 q6 q7 q8 jM
  refine (C3.out _ (HO.out.ex E2.out)).mono ?_
  rintro r w3 ⟨rfl, he3⟩
  have E3 := Lib.hid (E2.out.trans he3)
  have K3 := Lib.hid (K2.out.ex he3)
  clear he3 E2 K2
  obtain ⟨q0, q1, q2, q3, q4, q5, q6, q7, q8⟩ := K3.out.c9
  have jM := K3.out.lt
  go_wp2_with fail
  clear q0 q1 q2 q3 q4 q5 q6 q7 q8 jM
  refine (C4.out _ (HO.out.ex E3.out)).mono ?_
  rintro r w4 ⟨rfl, he4⟩
  have E4 := Lib.hid (E3.out.trans he4)
  have K4 := Lib.hid (K3.out.ex he4)
  clear he4 E3 K3
  obtain ⟨q0, q1, q2, q3, q4, q5, q6, q7, q8⟩ := K4.out.c9
  have jM := K4.out.lt
  go_wp2
  clear q0 q1 q2 q3 q4 q5 q6 q7 q8 jM C1 C2 C3 C4 HV
  obtain ⟨gm, hgm⟩ : ∃ gm : Nat, gm = w.heap.size := ⟨_, rfl⟩
  rw [← hgm] at K4 ⊢
  clear hgm
  go_loopw [40] (fun i wr => ∃ k : Nat, k ≤ n ∧ i = .int .i64 k ∧ Ex w4 wr ∧ ∀ (j : Nat) (h : FrameD), j < k → m.table.frames[j]? = some h → FrameFits h) (fun i _ => n - (intOf i).toNat)
  case atStart => exact ⟨0, Nat.zero_le _, rfl, Ex.refl _, fun j h hj => by omega⟩
  case round =>
    obtain ⟨k, hk, rfl, hq, hall⟩ := hrel
    have HQ := Lib.hid (E4.out.trans hq)
    have HQ4 := Lib.hid hq
    have HALL := Lib.hid hall
    have KQ := Lib.hid (K4.out.ex hq)
    clear hq hall
    obtain ⟨q0, q1, q2, q3, q4, q5, q6, q7, q8⟩ := KQ.out.c9
    have jM := KQ.out.lt
    by_cases hlt : k < n
    · obtain ⟨b2, o2, f, rfl, hb2, hfi, k0, k1, k2, k3, k4⟩ := (HF.out.ex HQ.out).frame (k := k) (by have := HN.out; omega)
      have HFI := Lib.hid hfi
      clear hfi
      have HNEXT : Hid (FrameFits f → ∀ (j : Nat) (h : FrameD), j < k + 1 → m.table.frames[j]? = some h → FrameFits h) := Lib.hid (fun hff j h hj hh => by
        by_cases e : j = k
        · subst e
          have := HFI.out
          rw [this] at hh
          injection hh with hh
          rw [← hh]; exact hff
        · exact HALL.out j h (by omega) hh)
      cases hu : f.used
      · rw [hu] at k0
        have HFF := Lib.hid (HNEXT.out (fun h => by rw [hu] at h; cases h.1))
        clear hu
        go_wp2
        go_roundw
        case rel => exact ⟨k + 1, by omega, by go_num, HQ4.out.alloc _, HFF.out⟩
        case measure => simp [intOf]; omega
      rw [hu] at k0
      by_cases hp : 128 ≤ f.key.page
      · by_cases hs : f.key.space = 0
        · have HFF := Lib.hid (HNEXT.out (fun h => h.2.2 hs))
          rw [hs] at k1
          clear hu
          go_wp2
          go_roundw
          case rel => exact ⟨k + 1, by omega, by go_num, HQ4.out.alloc _, HFF.out⟩
          case measure => simp [intOf]; omega
        · have HBAD : Hid (¬ MachOk m) := Lib.hid (fun h => h.2.1 k f HFI.out ⟨hu, hp, hs⟩)
          have hb1 : (f.key.space != 0) = true := by simpa using hs
          have hb2' : (!f.key.space == 0) = true := by simpa using hs
          clear hu
          go_wp2
          go_ret
          exact HNO.out _ (HQ.out.alloc _) HBAD.out
      · have HFF := Lib.hid (HNEXT.out (fun h => hp h.2.1))
        clear hu
        go_wp2
        go_roundw
        case rel => exact ⟨k + 1, by omega, by go_num, HQ4.out.alloc _, HFF.out⟩
        case measure => simp [intOf]; omega
    · obtain rfl : k = n := by omega
      have HFA : Hid (∀ (i : Nat) (f : FrameD), m.table.frames[i]? = some f → FrameFits f) := Lib.hid (fun i f h => HALL.out i f (by have := getElem?_lt h; have := HN.out; omega) h)
      go_wp2
      clear q0 q1 q2 q3 q4 q5 q6 q7 q8 jM HALL HQ KQ
      go_loopw [63] (fun i wq => ∃ q : Nat, q ≤ nl ∧ i = .int .i64 q ∧ Ex w4 wq ∧ ∀ (j : Nat) (h : LineD), j < q → m.cache.lines[j]? = some h → h.valid = true → LineFits m h) (fun i _ => nl - (intOf i).toNat)
      case atStart => exact ⟨0, Nat.zero_le _, rfl, HQ4.out, fun j h hj => by omega⟩
      case round =>
        clear HQ4
        obtain ⟨q, hk, rfl, hq, hall⟩ := hrel
        have HQ := Lib.hid (E4.out.trans hq)
        have HQ4 := Lib.hid hq
        have HALL := Lib.hid hall
        have KQ := Lib.hid (K4.out.ex hq)
        clear hq hall
        by_cases hlt : q < nl
        · obtain ⟨b3, o3, x, rfl, hb3, hxi, k0, k1, k2, k3, k4, k5⟩ := (HL.out.ex HQ.out).line (k := q) (by have := HNL.out; omega)
          obtain ⟨xv, xt, xp, xf, xr, xw⟩ := x
          dsimp only at k0 k1 k2 k3 k4 k5
          have HXI := Lib.hid hxi
          clear hxi
          have HNEXT : Hid ((xv = true → LineFits m ⟨xv, xt, xp, xf, xr, xw⟩) → ∀ (j : Nat) (h : LineD), j < q + 1 → m.cache.lines[j]? = some h → h.valid = true → LineFits m h) := Lib.hid (fun hff j h hj hh hv => by
            by_cases e : j = q
            · subst e
              have := HXI.out
              rw [this] at hh
              injection hh with hh
              subst hh; exact hff hv
            · exact HALL.out j h (by omega) hh hv)
          obtain ⟨q0, q1, q2, q3, q4, q5, q6, q7, q8⟩ := KQ.out.c9
          have jM := KQ.out.lt
          cases xv
          · have HFF := Lib.hid (HNEXT.out (fun h => by cases h))
            go_wp2
            go_roundw
            case rel => exact ⟨q + 1, by omega, by go_num, HQ4.out.alloc _, HFF.out⟩
            case measure => simp [intOf]; omega
          by_cases htg : xt = -1
          · by_cases hpg : 128 ≤ xp
            · have HT1 : Hid (xt = -1 ↔ 128 ≤ xp) := Lib.hid (by simp [htg, hpg])
              have HT2 : Hid (xt ≠ -1 → (spaceOf m.tags xt).2 = true) := Lib.hid (fun h => absurd htg h)
              have HT3 : Hid (xw = true → xt = -1) := Lib.hid (fun _ => htg)
              have hq : lineAt m ⟨true, xt, xp, xf, xr, xw⟩ = findF m.table (keyFor 0 xp) := by unfold lineAt lineSpace; rw [if_pos htg]
              subst htg
              cases xw
              · skip
                have CK0 := Lib.hid (fun w' => CK.out 0 xp w')
                generalize keyFor 0 xp = kk at hq CK0
                have CF0 := Lib.hid (fun w' h => CF.out kk w' h)
                rcases findF_range (t := m.table) kk with hm | ⟨i, f, hm, hfi⟩
                · have HBAD : Hid (¬ MachOk m) := Lib.hid (fun h => by obtain ⟨i, f, h1, _⟩ := (h.2.2 q _ HXI.out rfl).2.2.1; rw [hq, hm] at h1; omega)
                  rw [hm] at CF0
                  clear hq hm
                  go_wp2_with fail
                  obtain ⟨w0, hw0⟩ : ∃ w0 : World, w0 = wr.alloc (.cells #[.bool true, .int .i64 (-1), .int .i64 xp, .int .i64 xf, .int .i64 xr, .bool false] 74) := ⟨_, rfl⟩
                  obtain ⟨gl, hgl⟩ : ∃ gl : Nat, gl = wr.heap.size := ⟨_, rfl⟩
                  have K0 : Hid (Blk w0 gm 46 [.slice A nb c, .slice B k d, .slice (some ⟨b3, o3, none⟩) nl e, .int .i64 m.cache.hand, .int .i64 m.tags.count, .int .i64 m.tags.next, .int .i64 m.tags.round, .slice O no g, .int .i64 m.space]) := Lib.hid (by rw [hw0]; exact KQ.out.alloc _)
                  have K1 : Hid (Blk w0 gl 74 [.bool true, .int .i64 (-1), .int .i64 xp, .int .i64 xf, .int .i64 xr, .bool false]) := Lib.hid (by rw [hw0, hgl]; exact Blk.new wr _ _)
                  have EW : Hid (Ex wr w0) := Lib.hid (by rw [hw0]; exact (Ex.refl wr).alloc _)
                  rw [← hw0]
                  rw [← hgl]
                  clear hw0 hgl
                  clear q0 q1 q2 q3 q4 q5 q6 q7 q8 jM k0 k1 k2 k3 k4 k5
                  have FK9 : Hid (∀ w', Ex w0 w' → (w'.cell? ⟨gm, 0, none⟩ = some (.slice A nb c) ∧ w'.cell? ⟨gm, 1, none⟩ = some (.slice B k d) ∧ w'.cell? ⟨gl, 2, none⟩ = some (.int .i64 xp))) := Lib.hid (fun w' h => ⟨(K0.out.ex h).c9.1, (K0.out.ex h).c9.2.1, (K1.out.ex h).c6.2.2.1⟩)
                  refine wp_region_held_drew (S := (fun w' => (w'.cell? ⟨gm, 0, none⟩ = some (.slice A nb c) ∧ w'.cell? ⟨gm, 1, none⟩ = some (.slice B k d) ∧ w'.cell? ⟨gl, 2, none⟩ = some (.int .i64 xp)))) (by kernel_rfl) ?r0_hS0 (fun hHeld => ?_)
                  case r0_hS0 => exact FK9.out _ (Ex.refl _).drew
                  refine wpAnyH_take (i := 0) (oi := ?r0_o0) (v := ?r0_v0) ?r0_ho0 (by kernel_rfl) (by kernel_rfl) (by kernel_rfl) ?r0_hq0 ?r0_hy0 (by assumption) ?_
                  case r0_ho0 => (conv => lhs; whnf; arg 1; whnf)
                  case r0_hq0 => exact fun _ _ _ h => h
                  case r0_hy0 => (refine Or.inl ⟨by rfl, ?_⟩; intro w hSw; (try dsimp only at hSw); first | (go_simp; done) | (go_simp; with_reducible rfl))
                  try simp only [Act.put, List.setIfInBounds_toArray, List.set_cons_zero, List.set_cons_succ]
                  refine wpAnyH_take (i := 1) (oi := ?r0_o1) (v := ?r0_v1) ?r0_ho1 (by kernel_rfl) (by kernel_rfl) (by kernel_rfl) ?r0_hq1 ?r0_hy1 (by assumption) ?_
                  case r0_ho1 => (conv => lhs; whnf; arg 1; whnf)
                  case r0_hq1 => exact fun _ _ _ h => h
                  case r0_hy1 => (refine Or.inl ⟨by rfl, ?_⟩; intro w hSw; (try dsimp only at hSw); first | (go_simp; done) | (go_simp; with_reducible rfl))
                  try simp only [Act.put, List.setIfInBounds_toArray, List.set_cons_zero, List.set_cons_succ]
                  refine wpAnyH_take (i := 2) (oi := ?r0_o2) (v := ?r0_v2) ?r0_ho2 (by kernel_rfl) (by kernel_rfl) (by kernel_rfl) ?r0_hq2 ?r0_hy2 (by assumption) ?_
                  case r0_ho2 => (conv => lhs; whnf; arg 1; whnf)
                  case r0_hq2 => exact fun _ _ _ h => h
                  case r0_hy2 => (refine Or.inl ⟨by rfl, ?_⟩; intro w hSw; (try dsimp only at hSw); first | (go_simp; done) | (go_simp; with_reducible rfl))
                  try simp only [Act.put, List.setIfInBounds_toArray, List.set_cons_zero, List.set_cons_succ]
                  refine wpAnyH_take (i := 3) (oi := ?r0_o3) (v := ?r0_v3) ?r0_ho3 (by kernel_rfl) (by kernel_rfl) (by kernel_rfl) ?r0_hq3 ?r0_hy3 (by assumption) ?_
                  case r0_ho3 => (conv => lhs; whnf; arg 1; whnf)
                  case r0_hq3 => exact fun _ _ _ h => h
                  case r0_hy3 => (refine Or.inl ⟨by rfl, ?_⟩; intro w hSw; (try dsimp only at hSw); first | (go_simp; done) | (go_simp; with_reducible rfl))
                  try simp only [Act.put, List.setIfInBounds_toArray, List.set_cons_zero, List.set_cons_succ]
                  refine wpAnyH_take (i := 4) (oi := ?r0_o4) (v := ?r0_v4) ?r0_ho4 (by kernel_rfl) (by kernel_rfl) (by kernel_rfl) ?r0_hq4 ?r0_hy4 (by assumption) ?_
                  case r0_ho4 => (conv => lhs; whnf; arg 1; whnf)
                  case r0_hq4 => exact fun _ _ _ h => h
                  case r0_hy4 => (refine Or.inl ⟨by rfl, ?_⟩; intro w hSw; (try dsimp only at hSw); first | (go_simp; done) | (go_simp; with_reducible rfl))
                  try simp only [Act.put, List.setIfInBounds_toArray, List.set_cons_zero, List.set_cons_succ]
                  refine wpAnyH_ready (rs := [5]) (by kernel_rfl) (by simp) ?_
                  refine AllReadyH.cons (o := ?r0_o5) ?r0_ho5 (fun K hK => ?_) AllReadyH.nil
                  case r0_ho5 => (conv => lhs; whnf; arg 1; whnf)
                  refine step_call_gu rfl CEK.out _ _ rfl #[.int .i64 0, .int .i64 xp] rfl (CK0.out _) ?_; rintro r wa ⟨rfl, hwa⟩; refine ⟨_, rfl, ?_⟩; have hxa := Ex.trans (Ex.refl _).drew hwa
                  refine hK.out _ _ ?r0_hS5 (fun hHeld5 => ?_)
                  case r0_hS5 => exact FK9.out _ hxa
                  clear hK K hHeld
                  try simp only [Act.put, List.setIfInBounds_toArray, List.set_cons_zero, List.set_cons_succ]
                  refine wpAnyH_ready (rs := [6]) (by kernel_rfl) (by simp) ?_
                  refine AllReadyH.cons (o := ?r0_o6) ?r0_ho6 (fun K hK => ?_) AllReadyH.nil
                  case r0_ho6 => (conv => lhs; whnf; arg 1; whnf)
                  refine step_call_gu rfl CEF.out _ _ rfl #[.agg #[.slice A nb c, .slice B k d], .agg #[.int .i64 kk.space, .int .i64 kk.page]] rfl (CF0.out _ (HF.out.ex ((HQ.out.trans EW.out).trans hxa))) ?_; rintro r w3 ⟨rfl, he⟩; refine ⟨_, rfl, ?_⟩; have hx3 := Ex.trans hxa he
                  refine hK.out _ _ ?r0_hS6 (fun hHeld6 => ?_)
                  case r0_hS6 => exact FK9.out _ hx3
                  clear hK K hHeld5
                  try simp only [Act.put, List.setIfInBounds_toArray, List.set_cons_zero, List.set_cons_succ]
                  refine wpAnyH_take (i := 7) (oi := ?r0_o7) (v := ?r0_v7) ?r0_ho7 (by kernel_rfl) (by kernel_rfl) (by kernel_rfl) ?r0_hq7 ?r0_hy7 (by assumption) ?_
                  case r0_ho7 => (conv => lhs; whnf; arg 1; whnf)
                  case r0_hq7 => exact fun _ _ _ h => h
                  case r0_hy7 => (refine Or.inl ⟨by rfl, ?_⟩; intro w hSw; (try dsimp only at hSw); first | (go_simp; done) | (go_simp; with_reducible rfl))
                  try simp only [Act.put, List.setIfInBounds_toArray, List.set_cons_zero, List.set_cons_succ]
                  refine wpAnyH_done (by kernel_rfl) ?_ _
                  have HX3 := Lib.hid hx3
                  clear hx3 hxa he hwa
                  go_wp2_with fail
                  have FK10 : Hid (∀ w', Ex w3 w' → True) := Lib.hid (fun w' h => trivial)
                  refine wp_region_held_drew (S := (fun w' => True)) (by kernel_rfl) ?r1_hS0 (fun hHeld => ?_)
                  case r1_hS0 => exact FK10.out _ (Ex.refl _).drew
                  refine wpAnyH_take (i := 0) (oi := ?r1_o0) (v := ?r1_v0) ?r1_ho0 (by kernel_rfl) (by kernel_rfl) (by kernel_rfl) ?r1_hq0 ?r1_hy0 (by assumption) ?_
                  case r1_ho0 => (conv => lhs; whnf; arg 1; whnf)
                  case r1_hq0 => exact fun _ _ _ h => h
                  case r1_hy0 => (refine Or.inl ⟨by rfl, ?_⟩; intro w hSw; (try dsimp only at hSw); first | (go_simp; done) | (go_simp; with_reducible rfl))
                  try simp only [Act.put, List.setIfInBounds_toArray, List.set_cons_zero, List.set_cons_succ]
                  refine wpAnyH_take (i := 1) (oi := ?r1_o1) (v := ?r1_v1) ?r1_ho1 (by kernel_rfl) (by kernel_rfl) (by kernel_rfl) ?r1_hq1 ?r1_hy1 (by assumption) ?_
                  case r1_ho1 => (conv => lhs; whnf; arg 1; whnf)
                  case r1_hq1 => exact fun _ _ _ h => h
                  case r1_hy1 => (refine Or.inl ⟨by rfl, ?_⟩; intro w hSw; (try dsimp only at hSw); first | (go_simp; done) | (go_simp; with_reducible rfl))
                  try simp only [Act.put, List.setIfInBounds_toArray, List.set_cons_zero, List.set_cons_succ]
                  refine wpAnyH_take (i := 2) (oi := ?r1_o2) (v := ?r1_v2) ?r1_ho2 (by kernel_rfl) (by kernel_rfl) (by kernel_rfl) ?r1_hq2 ?r1_hy2 (by assumption) ?_
                  case r1_ho2 => (conv => lhs; whnf; arg 1; whnf)
                  case r1_hq2 => exact fun _ _ _ h => h
                  case r1_hy2 => (refine Or.inl ⟨by rfl, ?_⟩; intro w hSw; (try dsimp only at hSw); first | (go_simp; done) | (go_simp; with_reducible rfl))
                  try simp only [Act.put, List.setIfInBounds_toArray, List.set_cons_zero, List.set_cons_succ]
                  refine wpAnyH_take (i := 3) (oi := ?r1_o3) (v := undef) ?r1_ho3 (by kernel_rfl) (by kernel_rfl) (by kernel_rfl) ?r1_hq3 ?r1_hy3 (by assumption) ?_
                  case r1_ho3 => (conv => lhs; whnf; arg 1; whnf)
                  case r1_hq3 => exact fun _ _ _ h => h
                  case r1_hy3 => exact Or.inr ⟨by rfl, rfl⟩
                  try simp only [Act.put, List.setIfInBounds_toArray, List.set_cons_zero, List.set_cons_succ]
                  refine wpAnyH_take (i := 4) (oi := ?r1_o4) (v := undef) ?r1_ho4 (by kernel_rfl) (by kernel_rfl) (by kernel_rfl) ?r1_hq4 ?r1_hy4 (by assumption) ?_
                  case r1_ho4 => (conv => lhs; whnf; arg 1; whnf)
                  case r1_hq4 => exact fun _ _ _ h => h
                  case r1_hy4 => exact Or.inr ⟨by rfl, rfl⟩
                  try simp only [Act.put, List.setIfInBounds_toArray, List.set_cons_zero, List.set_cons_succ]
                  refine wpAnyH_take (i := 5) (oi := ?r1_o5) (v := undef) ?r1_ho5 (by kernel_rfl) (by kernel_rfl) (by kernel_rfl) ?r1_hq5 ?r1_hy5 (by assumption) ?_
                  case r1_ho5 => (conv => lhs; whnf; arg 1; whnf)
                  case r1_hq5 => exact fun _ _ _ h => h
                  case r1_hy5 => exact Or.inr ⟨by rfl, rfl⟩
                  try simp only [Act.put, List.setIfInBounds_toArray, List.set_cons_zero, List.set_cons_succ]
                  refine wpAnyH_take (i := 6) (oi := ?r1_o6) (v := undef) ?r1_ho6 (by kernel_rfl) (by kernel_rfl) (by kernel_rfl) ?r1_hq6 ?r1_hy6 (by assumption) ?_
                  case r1_ho6 => (conv => lhs; whnf; arg 1; whnf)
                  case r1_hq6 => exact fun _ _ _ h => h
                  case r1_hy6 => exact Or.inr ⟨by rfl, rfl⟩
                  try simp only [Act.put, List.setIfInBounds_toArray, List.set_cons_zero, List.set_cons_succ]
                  refine wpAnyH_take (i := 7) (oi := ?r1_o7) (v := ?r1_v7) ?r1_ho7 (by kernel_rfl) (by kernel_rfl) (by kernel_rfl) ?r1_hq7 ?r1_hy7 (by assumption) ?_
                  case r1_ho7 => (conv => lhs; whnf; arg 1; whnf)
                  case r1_hq7 => exact fun _ _ _ h => h
                  case r1_hy7 => (refine Or.inl ⟨by rfl, ?_⟩; intro w hSw; (try dsimp only at hSw); first | (go_simp; done) | (go_simp; with_reducible rfl))
                  try simp only [Act.put, List.setIfInBounds_toArray, List.set_cons_zero, List.set_cons_succ]
                  refine wpAnyH_take (i := 8) (oi := ?r1_o8) (v := ?r1_v8) ?r1_ho8 (by kernel_rfl) (by kernel_rfl) (by kernel_rfl) ?r1_hq8 ?r1_hy8 (by assumption) ?_
                  case r1_ho8 => (conv => lhs; whnf; arg 1; whnf)
                  case r1_hq8 => exact fun _ _ _ h => h
                  case r1_hy8 => (refine Or.inl ⟨by rfl, ?_⟩; intro w hSw; (try dsimp only at hSw); first | (go_simp; done) | (go_simp; with_reducible rfl))
                  try simp only [Act.put, List.setIfInBounds_toArray, List.set_cons_zero, List.set_cons_succ]
                  refine wpAnyH_take (i := 9) (oi := ?r1_o9) (v := undef) ?r1_ho9 (by kernel_rfl) (by kernel_rfl) (by kernel_rfl) ?r1_hq9 ?r1_hy9 (by assumption) ?_
                  case r1_ho9 => (conv => lhs; whnf; arg 1; whnf)
                  case r1_hq9 => exact fun _ _ _ h => h
                  case r1_hy9 => exact Or.inr ⟨by rfl, rfl⟩
                  try simp only [Act.put, List.setIfInBounds_toArray, List.set_cons_zero, List.set_cons_succ]
                  refine wpAnyH_take (i := 10) (oi := ?r1_o10) (v := undef) ?r1_ho10 (by kernel_rfl) (by kernel_rfl) (by kernel_rfl) ?r1_hq10 ?r1_hy10 (by assumption) ?_
                  case r1_ho10 => (conv => lhs; whnf; arg 1; whnf)
                  case r1_hq10 => exact fun _ _ _ h => h
                  case r1_hy10 => exact Or.inr ⟨by rfl, rfl⟩
                  try simp only [Act.put, List.setIfInBounds_toArray, List.set_cons_zero, List.set_cons_succ]
                  refine wpAnyH_take (i := 11) (oi := ?r1_o11) (v := undef) ?r1_ho11 (by kernel_rfl) (by kernel_rfl) (by kernel_rfl) ?r1_hq11 ?r1_hy11 (by assumption) ?_
                  case r1_ho11 => (conv => lhs; whnf; arg 1; whnf)
                  case r1_hq11 => exact fun _ _ _ h => h
                  case r1_hy11 => exact Or.inr ⟨by rfl, rfl⟩
                  try simp only [Act.put, List.setIfInBounds_toArray, List.set_cons_zero, List.set_cons_succ]
                  refine wpAnyH_take (i := 12) (oi := ?r1_o12) (v := undef) ?r1_ho12 (by kernel_rfl) (by kernel_rfl) (by kernel_rfl) ?r1_hq12 ?r1_hy12 (by assumption) ?_
                  case r1_ho12 => (conv => lhs; whnf; arg 1; whnf)
                  case r1_hq12 => exact fun _ _ _ h => h
                  case r1_hy12 => exact Or.inr ⟨by rfl, rfl⟩
                  try simp only [Act.put, List.setIfInBounds_toArray, List.set_cons_zero, List.set_cons_succ]
                  refine wpAnyH_take (i := 13) (oi := ?r1_o13) (v := undef) ?r1_ho13 (by kernel_rfl) (by kernel_rfl) (by kernel_rfl) ?r1_hq13 ?r1_hy13 (by assumption) ?_
                  case r1_ho13 => (conv => lhs; whnf; arg 1; whnf)
                  case r1_hq13 => exact fun _ _ _ h => h
                  case r1_hy13 => exact Or.inr ⟨by rfl, rfl⟩
                  try simp only [Act.put, List.setIfInBounds_toArray, List.set_cons_zero, List.set_cons_succ]
                  refine wpAnyH_take (i := 14) (oi := ?r1_o14) (v := undef) ?r1_ho14 (by kernel_rfl) (by kernel_rfl) (by kernel_rfl) ?r1_hq14 ?r1_hy14 (by assumption) ?_
                  case r1_ho14 => (conv => lhs; whnf; arg 1; whnf)
                  case r1_hq14 => exact fun _ _ _ h => h
                  case r1_hy14 => exact Or.inr ⟨by rfl, rfl⟩
                  try simp only [Act.put, List.setIfInBounds_toArray, List.set_cons_zero, List.set_cons_succ]
                  refine wpAnyH_take (i := 15) (oi := ?r1_o15) (v := undef) ?r1_ho15 (by kernel_rfl) (by kernel_rfl) (by kernel_rfl) ?r1_hq15 ?r1_hy15 (by assumption) ?_
                  case r1_ho15 => (conv => lhs; whnf; arg 1; whnf)
                  case r1_hq15 => exact fun _ _ _ h => h
                  case r1_hy15 => exact Or.inr ⟨by rfl, rfl⟩
                  try simp only [Act.put, List.setIfInBounds_toArray, List.set_cons_zero, List.set_cons_succ]
                  refine wpAnyH_take (i := 16) (oi := ?r1_o16) (v := undef) ?r1_ho16 (by kernel_rfl) (by kernel_rfl) (by kernel_rfl) ?r1_hq16 ?r1_hy16 (by assumption) ?_
                  case r1_ho16 => (conv => lhs; whnf; arg 1; whnf)
                  case r1_hq16 => exact fun _ _ _ h => h
                  case r1_hy16 => exact Or.inr ⟨by rfl, rfl⟩
                  try simp only [Act.put, List.setIfInBounds_toArray, List.set_cons_zero, List.set_cons_succ]
                  refine wpAnyH_take (i := 17) (oi := ?r1_o17) (v := undef) ?r1_ho17 (by kernel_rfl) (by kernel_rfl) (by kernel_rfl) ?r1_hq17 ?r1_hy17 (by assumption) ?_
                  case r1_ho17 => (conv => lhs; whnf; arg 1; whnf)
                  case r1_hq17 => exact fun _ _ _ h => h
                  case r1_hy17 => exact Or.inr ⟨by rfl, rfl⟩
                  try simp only [Act.put, List.setIfInBounds_toArray, List.set_cons_zero, List.set_cons_succ]
                  refine wpAnyH_take (i := 18) (oi := ?r1_o18) (v := undef) ?r1_ho18 (by kernel_rfl) (by kernel_rfl) (by kernel_rfl) ?r1_hq18 ?r1_hy18 (by assumption) ?_
                  case r1_ho18 => (conv => lhs; whnf; arg 1; whnf)
                  case r1_hq18 => exact fun _ _ _ h => h
                  case r1_hy18 => exact Or.inr ⟨by rfl, rfl⟩
                  try simp only [Act.put, List.setIfInBounds_toArray, List.set_cons_zero, List.set_cons_succ]
                  refine wpAnyH_take (i := 19) (oi := ?r1_o19) (v := ?r1_v19) ?r1_ho19 (by kernel_rfl) (by kernel_rfl) (by kernel_rfl) ?r1_hq19 ?r1_hy19 (by assumption) ?_
                  case r1_ho19 => (conv => lhs; whnf; arg 1; whnf)
                  case r1_hq19 => exact fun _ _ _ h => h
                  case r1_hy19 => (refine Or.inl ⟨by rfl, ?_⟩; intro w hSw; (try dsimp only at hSw); first | (go_simp; done) | (go_simp; with_reducible rfl))
                  try simp only [Act.put, List.setIfInBounds_toArray, List.set_cons_zero, List.set_cons_succ]
                  refine wpAnyH_done (by kernel_rfl) ?_ _
                  go_wp2
                  go_ret
                  exact HNO.out _ ((HQ.out.trans EW.out).trans HX3.out).drew HBAD.out
                rw [hm] at CF0 hq
                have hin : i < k := by have := getElem?_lt hfi; have := HN.out; omega
                obtain ⟨b2, o2, f', rfl, hb2, hfi', z0, z1, z2, z3, z4⟩ := (HF.out.ex HQ.out).frame (k := i) (getElem?_lt hfi)
                have e : f = f' := by rw [hfi] at hfi'; injection hfi'
                subst e
                have HB2 := Lib.hid hb2
                have Z3 := Lib.hid z3
                have HIFF : Hid (LineFits m ⟨true, (-1), xp, xf, xr, false⟩ ↔ (i : Int) = xf ∧ f.rights = xr) := Lib.hid (by
                  constructor
                  · rintro ⟨_, _, ⟨i', f', h1, h2, h3, h4⟩, h5⟩
                    have e : i' = i := by rw [hq] at h1; omega
                    subst e
                    rw [hfi] at h3
                    injection h3 with h3
                    rw [h3]
                    exact ⟨h2, h4⟩
                  · rintro ⟨h1, h2⟩
                    exact ⟨HT1.out, HT2.out, ⟨i, f, hq, h1, hfi, h2⟩, HT3.out⟩)
                clear hb2 z0 z1 z2 z3 z4 hq hm hfi hfi'
                have hi0 : ¬ (i : Int) < 0 := by omega
                by_cases hfr : (i : Int) = xf
                rotate_left
                · have HBAD : Hid (¬ MachOk m) := Lib.hid (fun h => hfr (HIFF.out.1 (h.2.2 q _ HXI.out rfl)).1)
                  have hbb : ((i : Int) == xf) = false := by simpa using hfr
                  have hbn : ((i : Int) != xf) = true := by simpa using hfr
                  have hbm : (!((i : Int) == xf)) = true := by simpa using hfr
                  go_wp2_with fail
                  obtain ⟨w0, hw0⟩ : ∃ w0 : World, w0 = wr.alloc (.cells #[.bool true, .int .i64 (-1), .int .i64 xp, .int .i64 xf, .int .i64 xr, .bool false] 74) := ⟨_, rfl⟩
                  obtain ⟨gl, hgl⟩ : ∃ gl : Nat, gl = wr.heap.size := ⟨_, rfl⟩
                  have K0 : Hid (Blk w0 gm 46 [.slice A nb c, .slice (some ⟨b2, o2, none⟩) k d, .slice (some ⟨b3, o3, none⟩) nl e, .int .i64 m.cache.hand, .int .i64 m.tags.count, .int .i64 m.tags.next, .int .i64 m.tags.round, .slice O no g, .int .i64 m.space]) := Lib.hid (by rw [hw0]; exact KQ.out.alloc _)
                  have K1 : Hid (Blk w0 gl 74 [.bool true, .int .i64 (-1), .int .i64 xp, .int .i64 xf, .int .i64 xr, .bool false]) := Lib.hid (by rw [hw0, hgl]; exact Blk.new wr _ _)
                  have EW : Hid (Ex wr w0) := Lib.hid (by rw [hw0]; exact (Ex.refl wr).alloc _)
                  rw [← hw0]
                  rw [← hgl]
                  clear hw0 hgl
                  clear q0 q1 q2 q3 q4 q5 q6 q7 q8 jM k0 k1 k2 k3 k4 k5
                  have FK9 : Hid (∀ w', Ex w0 w' → (w'.cell? ⟨gm, 0, none⟩ = some (.slice A nb c) ∧ w'.cell? ⟨gm, 1, none⟩ = some (.slice (some ⟨b2, o2, none⟩) k d) ∧ w'.cell? ⟨gl, 2, none⟩ = some (.int .i64 xp))) := Lib.hid (fun w' h => ⟨(K0.out.ex h).c9.1, (K0.out.ex h).c9.2.1, (K1.out.ex h).c6.2.2.1⟩)
                  refine wp_region_held_drew (S := (fun w' => (w'.cell? ⟨gm, 0, none⟩ = some (.slice A nb c) ∧ w'.cell? ⟨gm, 1, none⟩ = some (.slice (some ⟨b2, o2, none⟩) k d) ∧ w'.cell? ⟨gl, 2, none⟩ = some (.int .i64 xp)))) (by kernel_rfl) ?r2_hS0 (fun hHeld => ?_)
                  case r2_hS0 => exact FK9.out _ (Ex.refl _).drew
                  refine wpAnyH_take (i := 0) (oi := ?r2_o0) (v := ?r2_v0) ?r2_ho0 (by kernel_rfl) (by kernel_rfl) (by kernel_rfl) ?r2_hq0 ?r2_hy0 (by assumption) ?_
                  case r2_ho0 => (conv => lhs; whnf; arg 1; whnf)
                  case r2_hq0 => exact fun _ _ _ h => h
                  case r2_hy0 => (refine Or.inl ⟨by rfl, ?_⟩; intro w hSw; (try dsimp only at hSw); first | (go_simp; done) | (go_simp; with_reducible rfl))
                  try simp only [Act.put, List.setIfInBounds_toArray, List.set_cons_zero, List.set_cons_succ]
                  refine wpAnyH_take (i := 1) (oi := ?r2_o1) (v := ?r2_v1) ?r2_ho1 (by kernel_rfl) (by kernel_rfl) (by kernel_rfl) ?r2_hq1 ?r2_hy1 (by assumption) ?_
                  case r2_ho1 => (conv => lhs; whnf; arg 1; whnf)
                  case r2_hq1 => exact fun _ _ _ h => h
                  case r2_hy1 => (refine Or.inl ⟨by rfl, ?_⟩; intro w hSw; (try dsimp only at hSw); first | (go_simp; done) | (go_simp; with_reducible rfl))
                  try simp only [Act.put, List.setIfInBounds_toArray, List.set_cons_zero, List.set_cons_succ]
                  refine wpAnyH_take (i := 2) (oi := ?r2_o2) (v := ?r2_v2) ?r2_ho2 (by kernel_rfl) (by kernel_rfl) (by kernel_rfl) ?r2_hq2 ?r2_hy2 (by assumption) ?_
                  case r2_ho2 => (conv => lhs; whnf; arg 1; whnf)
                  case r2_hq2 => exact fun _ _ _ h => h
                  case r2_hy2 => (refine Or.inl ⟨by rfl, ?_⟩; intro w hSw; (try dsimp only at hSw); first | (go_simp; done) | (go_simp; with_reducible rfl))
                  try simp only [Act.put, List.setIfInBounds_toArray, List.set_cons_zero, List.set_cons_succ]
                  refine wpAnyH_take (i := 3) (oi := ?r2_o3) (v := ?r2_v3) ?r2_ho3 (by kernel_rfl) (by kernel_rfl) (by kernel_rfl) ?r2_hq3 ?r2_hy3 (by assumption) ?_
                  case r2_ho3 => (conv => lhs; whnf; arg 1; whnf)
                  case r2_hq3 => exact fun _ _ _ h => h
                  case r2_hy3 => (refine Or.inl ⟨by rfl, ?_⟩; intro w hSw; (try dsimp only at hSw); first | (go_simp; done) | (go_simp; with_reducible rfl))
                  try simp only [Act.put, List.setIfInBounds_toArray, List.set_cons_zero, List.set_cons_succ]
                  refine wpAnyH_take (i := 4) (oi := ?r2_o4) (v := ?r2_v4) ?r2_ho4 (by kernel_rfl) (by kernel_rfl) (by kernel_rfl) ?r2_hq4 ?r2_hy4 (by assumption) ?_
                  case r2_ho4 => (conv => lhs; whnf; arg 1; whnf)
                  case r2_hq4 => exact fun _ _ _ h => h
                  case r2_hy4 => (refine Or.inl ⟨by rfl, ?_⟩; intro w hSw; (try dsimp only at hSw); first | (go_simp; done) | (go_simp; with_reducible rfl))
                  try simp only [Act.put, List.setIfInBounds_toArray, List.set_cons_zero, List.set_cons_succ]
                  refine wpAnyH_ready (rs := [5]) (by kernel_rfl) (by simp) ?_
                  refine AllReadyH.cons (o := ?r2_o5) ?r2_ho5 (fun K hK => ?_) AllReadyH.nil
                  case r2_ho5 => (conv => lhs; whnf; arg 1; whnf)
                  refine step_call_gu rfl CEK.out _ _ rfl #[.int .i64 0, .int .i64 xp] rfl (CK0.out _) ?_; rintro r wa ⟨rfl, hwa⟩; refine ⟨_, rfl, ?_⟩; have hxa := Ex.trans (Ex.refl _).drew hwa
                  refine hK.out _ _ ?r2_hS5 (fun hHeld5 => ?_)
                  case r2_hS5 => exact FK9.out _ hxa
                  clear hK K hHeld
                  try simp only [Act.put, List.setIfInBounds_toArray, List.set_cons_zero, List.set_cons_succ]
                  refine wpAnyH_ready (rs := [6]) (by kernel_rfl) (by simp) ?_
                  refine AllReadyH.cons (o := ?r2_o6) ?r2_ho6 (fun K hK => ?_) AllReadyH.nil
                  case r2_ho6 => (conv => lhs; whnf; arg 1; whnf)
                  refine step_call_gu rfl CEF.out _ _ rfl #[.agg #[.slice A nb c, .slice (some ⟨b2, o2, none⟩) k d], .agg #[.int .i64 kk.space, .int .i64 kk.page]] rfl (CF0.out _ (HF.out.ex ((HQ.out.trans EW.out).trans hxa))) ?_; rintro r w3 ⟨rfl, he⟩; refine ⟨_, rfl, ?_⟩; have hx3 := Ex.trans hxa he
                  refine hK.out _ _ ?r2_hS6 (fun hHeld6 => ?_)
                  case r2_hS6 => exact FK9.out _ hx3
                  clear hK K hHeld5
                  try simp only [Act.put, List.setIfInBounds_toArray, List.set_cons_zero, List.set_cons_succ]
                  refine wpAnyH_take (i := 7) (oi := ?r2_o7) (v := ?r2_v7) ?r2_ho7 (by kernel_rfl) (by kernel_rfl) (by kernel_rfl) ?r2_hq7 ?r2_hy7 (by assumption) ?_
                  case r2_ho7 => (conv => lhs; whnf; arg 1; whnf)
                  case r2_hq7 => exact fun _ _ _ h => h
                  case r2_hy7 => (refine Or.inl ⟨by rfl, ?_⟩; intro w hSw; (try dsimp only at hSw); first | (go_simp; done) | (go_simp; with_reducible rfl))
                  try simp only [Act.put, List.setIfInBounds_toArray, List.set_cons_zero, List.set_cons_succ]
                  refine wpAnyH_done (by kernel_rfl) ?_ _
                  have HX3 := Lib.hid hx3
                  clear hx3 hxa he hwa
                  go_wp2_with fail
                  have FK10 : Hid (∀ w', Ex w3 w' → (w'.cell? ⟨gl, 3, none⟩ = some (.int .i64 xf))) := Lib.hid (fun w' h => (K1.out.ex (HX3.out.trans h)).c6.2.2.2.1)
                  refine wp_region_held_drew (S := (fun w' => (w'.cell? ⟨gl, 3, none⟩ = some (.int .i64 xf)))) (by kernel_rfl) ?r3_hS0 (fun hHeld => ?_)
                  case r3_hS0 => exact FK10.out _ (Ex.refl _).drew
                  refine wpAnyH_take (i := 0) (oi := ?r3_o0) (v := ?r3_v0) ?r3_ho0 (by kernel_rfl) (by kernel_rfl) (by kernel_rfl) ?r3_hq0 ?r3_hy0 (by assumption) ?_
                  case r3_ho0 => (conv => lhs; whnf; arg 1; whnf)
                  case r3_hq0 => exact fun _ _ _ h => h
                  case r3_hy0 => (refine Or.inl ⟨by rfl, ?_⟩; intro w hSw; (try dsimp only at hSw); first | (go_simp; done) | (go_simp; with_reducible rfl))
                  try simp only [Act.put, List.setIfInBounds_toArray, List.set_cons_zero, List.set_cons_succ]
                  refine wpAnyH_take (i := 1) (oi := ?r3_o1) (v := ?r3_v1) ?r3_ho1 (by kernel_rfl) (by kernel_rfl) (by kernel_rfl) ?r3_hq1 ?r3_hy1 (by assumption) ?_
                  case r3_ho1 => (conv => lhs; whnf; arg 1; whnf)
                  case r3_hq1 => exact fun _ _ _ h => h
                  case r3_hy1 => (refine Or.inl ⟨by rfl, ?_⟩; intro w hSw; (try dsimp only at hSw); first | (go_simp; done) | (go_simp; with_reducible rfl))
                  try simp only [Act.put, List.setIfInBounds_toArray, List.set_cons_zero, List.set_cons_succ]
                  refine wpAnyH_take (i := 2) (oi := ?r3_o2) (v := ?r3_v2) ?r3_ho2 (by kernel_rfl) (by kernel_rfl) (by kernel_rfl) ?r3_hq2 ?r3_hy2 (by assumption) ?_
                  case r3_ho2 => (conv => lhs; whnf; arg 1; whnf)
                  case r3_hq2 => exact fun _ _ _ h => h
                  case r3_hy2 => (refine Or.inl ⟨by rfl, ?_⟩; intro w hSw; (try dsimp only at hSw); first | (go_simp; done) | (go_simp; with_reducible rfl))
                  try simp only [Act.put, List.setIfInBounds_toArray, List.set_cons_zero, List.set_cons_succ]
                  refine wpAnyH_take (i := 3) (oi := ?r3_o3) (v := ?r3_v3) ?r3_ho3 (by kernel_rfl) (by kernel_rfl) (by kernel_rfl) ?r3_hq3 ?r3_hy3 (by assumption) ?_
                  case r3_ho3 => (conv => lhs; whnf; arg 1; whnf)
                  case r3_hq3 => exact fun _ _ _ h => h
                  case r3_hy3 => (refine Or.inl ⟨by rfl, ?_⟩; intro w hSw; (try dsimp only at hSw); first | (go_simp; done) | (go_simp; with_reducible rfl))
                  try simp only [Act.put, List.setIfInBounds_toArray, List.set_cons_zero, List.set_cons_succ]
                  refine wpAnyH_take (i := 4) (oi := ?r3_o4) (v := ?r3_v4) ?r3_ho4 (by kernel_rfl) (by kernel_rfl) (by kernel_rfl) ?r3_hq4 ?r3_hy4 (by assumption) ?_
                  case r3_ho4 => (conv => lhs; whnf; arg 1; whnf)
                  case r3_hq4 => exact fun _ _ _ h => h
                  case r3_hy4 => (refine Or.inl ⟨by rfl, ?_⟩; intro w hSw; (try dsimp only at hSw); first | (go_simp; done) | (go_simp; with_reducible rfl))
                  try simp only [Act.put, List.setIfInBounds_toArray, List.set_cons_zero, List.set_cons_succ]
                  refine wpAnyH_take (i := 5) (oi := ?r3_o5) (v := ?r3_v5) ?r3_ho5 (by kernel_rfl) (by kernel_rfl) (by kernel_rfl) ?r3_hq5 ?r3_hy5 (by assumption) ?_
                  case r3_ho5 => (conv => lhs; whnf; arg 1; whnf)
                  case r3_hq5 => exact fun _ _ _ h => h
                  case r3_hy5 => (refine Or.inl ⟨by rfl, ?_⟩; intro w hSw; (try dsimp only at hSw); first | (go_simp; done) | (go_simp; with_reducible rfl))
                  try simp only [Act.put, List.setIfInBounds_toArray, List.set_cons_zero, List.set_cons_succ]
                  refine wpAnyH_take (i := 6) (oi := ?r3_o6) (v := ?r3_v6) ?r3_ho6 (by kernel_rfl) (by kernel_rfl) (by kernel_rfl) ?r3_hq6 ?r3_hy6 (by assumption) ?_
                  case r3_ho6 => (conv => lhs; whnf; arg 1; whnf)
                  case r3_hq6 => exact fun _ _ _ h => h
                  case r3_hy6 => (refine Or.inl ⟨by rfl, ?_⟩; intro w hSw; (try dsimp only at hSw); first | (go_simp; done) | (go_simp; with_reducible rfl))
                  try simp only [Act.put, List.setIfInBounds_toArray, List.set_cons_zero, List.set_cons_succ]
                  refine wpAnyH_take (i := 7) (oi := ?r3_o7) (v := ?r3_v7) ?r3_ho7 (by kernel_rfl) (by kernel_rfl) (by kernel_rfl) ?r3_hq7 ?r3_hy7 (by assumption) ?_
                  case r3_ho7 => (conv => lhs; whnf; arg 1; whnf)
                  case r3_hq7 => exact fun _ _ _ h => h
                  case r3_hy7 => (refine Or.inl ⟨by rfl, ?_⟩; intro w hSw; (try dsimp only at hSw); first | (go_simp; done) | (go_simp; with_reducible rfl))
                  try simp only [Act.put, List.setIfInBounds_toArray, List.set_cons_zero, List.set_cons_succ]
                  refine wpAnyH_take (i := 8) (oi := ?r3_o8) (v := ?r3_v8) ?r3_ho8 (by kernel_rfl) (by kernel_rfl) (by kernel_rfl) ?r3_hq8 ?r3_hy8 (by assumption) ?_
                  case r3_ho8 => (conv => lhs; whnf; arg 1; whnf)
                  case r3_hq8 => exact fun _ _ _ h => h
                  case r3_hy8 => (refine Or.inl ⟨by rfl, ?_⟩; intro w hSw; (try dsimp only at hSw); first | (go_simp; done) | (go_simp; with_reducible rfl))
                  try simp only [Act.put, List.setIfInBounds_toArray, List.set_cons_zero, List.set_cons_succ]
                  refine wpAnyH_take (i := 9) (oi := ?r3_o9) (v := undef) ?r3_ho9 (by kernel_rfl) (by kernel_rfl) (by kernel_rfl) ?r3_hq9 ?r3_hy9 (by assumption) ?_
                  case r3_ho9 => (conv => lhs; whnf; arg 1; whnf)
                  case r3_hq9 => exact fun _ _ _ h => h
                  case r3_hy9 => exact Or.inr ⟨by rfl, rfl⟩
                  try simp only [Act.put, List.setIfInBounds_toArray, List.set_cons_zero, List.set_cons_succ]
                  refine wpAnyH_take (i := 10) (oi := ?r3_o10) (v := undef) ?r3_ho10 (by kernel_rfl) (by kernel_rfl) (by kernel_rfl) ?r3_hq10 ?r3_hy10 (by assumption) ?_
                  case r3_ho10 => (conv => lhs; whnf; arg 1; whnf)
                  case r3_hq10 => exact fun _ _ _ h => h
                  case r3_hy10 => exact Or.inr ⟨by rfl, rfl⟩
                  try simp only [Act.put, List.setIfInBounds_toArray, List.set_cons_zero, List.set_cons_succ]
                  refine wpAnyH_take (i := 11) (oi := ?r3_o11) (v := undef) ?r3_ho11 (by kernel_rfl) (by kernel_rfl) (by kernel_rfl) ?r3_hq11 ?r3_hy11 (by assumption) ?_
                  case r3_ho11 => (conv => lhs; whnf; arg 1; whnf)
                  case r3_hq11 => exact fun _ _ _ h => h
                  case r3_hy11 => exact Or.inr ⟨by rfl, rfl⟩
                  try simp only [Act.put, List.setIfInBounds_toArray, List.set_cons_zero, List.set_cons_succ]
                  refine wpAnyH_take (i := 12) (oi := ?r3_o12) (v := undef) ?r3_ho12 (by kernel_rfl) (by kernel_rfl) (by kernel_rfl) ?r3_hq12 ?r3_hy12 (by assumption) ?_
                  case r3_ho12 => (conv => lhs; whnf; arg 1; whnf)
                  case r3_hq12 => exact fun _ _ _ h => h
                  case r3_hy12 => exact Or.inr ⟨by rfl, rfl⟩
                  try simp only [Act.put, List.setIfInBounds_toArray, List.set_cons_zero, List.set_cons_succ]
                  refine wpAnyH_take (i := 13) (oi := ?r3_o13) (v := undef) ?r3_ho13 (by kernel_rfl) (by kernel_rfl) (by kernel_rfl) ?r3_hq13 ?r3_hy13 (by assumption) ?_
                  case r3_ho13 => (conv => lhs; whnf; arg 1; whnf)
                  case r3_hq13 => exact fun _ _ _ h => h
                  case r3_hy13 => exact Or.inr ⟨by rfl, rfl⟩
                  try simp only [Act.put, List.setIfInBounds_toArray, List.set_cons_zero, List.set_cons_succ]
                  refine wpAnyH_take (i := 14) (oi := ?r3_o14) (v := undef) ?r3_ho14 (by kernel_rfl) (by kernel_rfl) (by kernel_rfl) ?r3_hq14 ?r3_hy14 (by assumption) ?_
                  case r3_ho14 => (conv => lhs; whnf; arg 1; whnf)
                  case r3_hq14 => exact fun _ _ _ h => h
                  case r3_hy14 => exact Or.inr ⟨by rfl, rfl⟩
                  try simp only [Act.put, List.setIfInBounds_toArray, List.set_cons_zero, List.set_cons_succ]
                  refine wpAnyH_take (i := 15) (oi := ?r3_o15) (v := undef) ?r3_ho15 (by kernel_rfl) (by kernel_rfl) (by kernel_rfl) ?r3_hq15 ?r3_hy15 (by assumption) ?_
                  case r3_ho15 => (conv => lhs; whnf; arg 1; whnf)
                  case r3_hq15 => exact fun _ _ _ h => h
                  case r3_hy15 => exact Or.inr ⟨by rfl, rfl⟩
                  try simp only [Act.put, List.setIfInBounds_toArray, List.set_cons_zero, List.set_cons_succ]
                  refine wpAnyH_take (i := 16) (oi := ?r3_o16) (v := undef) ?r3_ho16 (by kernel_rfl) (by kernel_rfl) (by kernel_rfl) ?r3_hq16 ?r3_hy16 (by assumption) ?_
                  case r3_ho16 => (conv => lhs; whnf; arg 1; whnf)
                  case r3_hq16 => exact fun _ _ _ h => h
                  case r3_hy16 => exact Or.inr ⟨by rfl, rfl⟩
                  try simp only [Act.put, List.setIfInBounds_toArray, List.set_cons_zero, List.set_cons_succ]
                  refine wpAnyH_take (i := 17) (oi := ?r3_o17) (v := undef) ?r3_ho17 (by kernel_rfl) (by kernel_rfl) (by kernel_rfl) ?r3_hq17 ?r3_hy17 (by assumption) ?_
                  case r3_ho17 => (conv => lhs; whnf; arg 1; whnf)
                  case r3_hq17 => exact fun _ _ _ h => h
                  case r3_hy17 => exact Or.inr ⟨by rfl, rfl⟩
                  try simp only [Act.put, List.setIfInBounds_toArray, List.set_cons_zero, List.set_cons_succ]
                  refine wpAnyH_take (i := 18) (oi := ?r3_o18) (v := undef) ?r3_ho18 (by kernel_rfl) (by kernel_rfl) (by kernel_rfl) ?r3_hq18 ?r3_hy18 (by assumption) ?_
                  case r3_ho18 => (conv => lhs; whnf; arg 1; whnf)
                  case r3_hq18 => exact fun _ _ _ h => h
                  case r3_hy18 => exact Or.inr ⟨by rfl, rfl⟩
                  try simp only [Act.put, List.setIfInBounds_toArray, List.set_cons_zero, List.set_cons_succ]
                  refine wpAnyH_take (i := 19) (oi := ?r3_o19) (v := ?r3_v19) ?r3_ho19 (by kernel_rfl) (by kernel_rfl) (by kernel_rfl) ?r3_hq19 ?r3_hy19 (by assumption) ?_
                  case r3_ho19 => (conv => lhs; whnf; arg 1; whnf)
                  case r3_hq19 => exact fun _ _ _ h => h
                  case r3_hy19 => (refine Or.inl ⟨by rfl, ?_⟩; intro w hSw; (try dsimp only at hSw); first | (go_simp; done) | (go_simp; with_reducible rfl))
                  try simp only [Act.put, List.setIfInBounds_toArray, List.set_cons_zero, List.set_cons_succ]
                  refine wpAnyH_done (by kernel_rfl) ?_ _
                  go_wp2
                  go_ret
                  exact HNO.out _ ((HQ.out.trans EW.out).trans HX3.out).drew HBAD.out
                by_cases hr : f.rights = xr
                rotate_left
                · have HBAD : Hid (¬ MachOk m) := Lib.hid (fun h => hr (HIFF.out.1 (h.2.2 q _ HXI.out rfl)).2)
                  have hbb : (f.rights == xr) = false := by simpa using hr
                  have hbn : (f.rights != xr) = true := by simpa using hr
                  have hbm : (!(f.rights == xr)) = true := by simpa using hr
                  clear HIFF
                  subst hfr
                  go_wp2_with fail
                  obtain ⟨w0, hw0⟩ : ∃ w0 : World, w0 = wr.alloc (.cells #[.bool true, .int .i64 (-1), .int .i64 xp, .int .i64 (i : Int), .int .i64 xr, .bool false] 74) := ⟨_, rfl⟩
                  obtain ⟨gl, hgl⟩ : ∃ gl : Nat, gl = wr.heap.size := ⟨_, rfl⟩
                  have K0 : Hid (Blk w0 gm 46 [.slice A nb c, .slice (some ⟨b2, o2, none⟩) k d, .slice (some ⟨b3, o3, none⟩) nl e, .int .i64 m.cache.hand, .int .i64 m.tags.count, .int .i64 m.tags.next, .int .i64 m.tags.round, .slice O no g, .int .i64 m.space]) := Lib.hid (by rw [hw0]; exact KQ.out.alloc _)
                  have K1 : Hid (Blk w0 gl 74 [.bool true, .int .i64 (-1), .int .i64 xp, .int .i64 (i : Int), .int .i64 xr, .bool false]) := Lib.hid (by rw [hw0, hgl]; exact Blk.new wr _ _)
                  have EW : Hid (Ex wr w0) := Lib.hid (by rw [hw0]; exact (Ex.refl wr).alloc _)
                  rw [← hw0]
                  rw [← hgl]
                  clear hw0 hgl
                  clear q0 q1 q2 q3 q4 q5 q6 q7 q8 jM k0 k1 k2 k3 k4 k5
                  have FK9 : Hid (∀ w', Ex w0 w' → (w'.cell? ⟨gm, 0, none⟩ = some (.slice A nb c) ∧ w'.cell? ⟨gm, 1, none⟩ = some (.slice (some ⟨b2, o2, none⟩) k d) ∧ w'.cell? ⟨gl, 2, none⟩ = some (.int .i64 xp))) := Lib.hid (fun w' h => ⟨(K0.out.ex h).c9.1, (K0.out.ex h).c9.2.1, (K1.out.ex h).c6.2.2.1⟩)
                  refine wp_region_held_drew (S := (fun w' => (w'.cell? ⟨gm, 0, none⟩ = some (.slice A nb c) ∧ w'.cell? ⟨gm, 1, none⟩ = some (.slice (some ⟨b2, o2, none⟩) k d) ∧ w'.cell? ⟨gl, 2, none⟩ = some (.int .i64 xp)))) (by kernel_rfl) ?r4_hS0 (fun hHeld => ?_)
                  case r4_hS0 => exact FK9.out _ (Ex.refl _).drew
                  refine wpAnyH_take (i := 0) (oi := ?r4_o0) (v := ?r4_v0) ?r4_ho0 (by kernel_rfl) (by kernel_rfl) (by kernel_rfl) ?r4_hq0 ?r4_hy0 (by assumption) ?_
                  case r4_ho0 => (conv => lhs; whnf; arg 1; whnf)
                  case r4_hq0 => exact fun _ _ _ h => h
                  case r4_hy0 => (refine Or.inl ⟨by rfl, ?_⟩; intro w hSw; (try dsimp only at hSw); first | (go_simp; done) | (go_simp; with_reducible rfl))
                  try simp only [Act.put, List.setIfInBounds_toArray, List.set_cons_zero, List.set_cons_succ]
                  refine wpAnyH_take (i := 1) (oi := ?r4_o1) (v := ?r4_v1) ?r4_ho1 (by kernel_rfl) (by kernel_rfl) (by kernel_rfl) ?r4_hq1 ?r4_hy1 (by assumption) ?_
                  case r4_ho1 => (conv => lhs; whnf; arg 1; whnf)
                  case r4_hq1 => exact fun _ _ _ h => h
                  case r4_hy1 => (refine Or.inl ⟨by rfl, ?_⟩; intro w hSw; (try dsimp only at hSw); first | (go_simp; done) | (go_simp; with_reducible rfl))
                  try simp only [Act.put, List.setIfInBounds_toArray, List.set_cons_zero, List.set_cons_succ]
                  refine wpAnyH_take (i := 2) (oi := ?r4_o2) (v := ?r4_v2) ?r4_ho2 (by kernel_rfl) (by kernel_rfl) (by kernel_rfl) ?r4_hq2 ?r4_hy2 (by assumption) ?_
                  case r4_ho2 => (conv => lhs; whnf; arg 1; whnf)
                  case r4_hq2 => exact fun _ _ _ h => h
                  case r4_hy2 => (refine Or.inl ⟨by rfl, ?_⟩; intro w hSw; (try dsimp only at hSw); first | (go_simp; done) | (go_simp; with_reducible rfl))
                  try simp only [Act.put, List.setIfInBounds_toArray, List.set_cons_zero, List.set_cons_succ]
                  refine wpAnyH_take (i := 3) (oi := ?r4_o3) (v := ?r4_v3) ?r4_ho3 (by kernel_rfl) (by kernel_rfl) (by kernel_rfl) ?r4_hq3 ?r4_hy3 (by assumption) ?_
                  case r4_ho3 => (conv => lhs; whnf; arg 1; whnf)
                  case r4_hq3 => exact fun _ _ _ h => h
                  case r4_hy3 => (refine Or.inl ⟨by rfl, ?_⟩; intro w hSw; (try dsimp only at hSw); first | (go_simp; done) | (go_simp; with_reducible rfl))
                  try simp only [Act.put, List.setIfInBounds_toArray, List.set_cons_zero, List.set_cons_succ]
                  refine wpAnyH_take (i := 4) (oi := ?r4_o4) (v := ?r4_v4) ?r4_ho4 (by kernel_rfl) (by kernel_rfl) (by kernel_rfl) ?r4_hq4 ?r4_hy4 (by assumption) ?_
                  case r4_ho4 => (conv => lhs; whnf; arg 1; whnf)
                  case r4_hq4 => exact fun _ _ _ h => h
                  case r4_hy4 => (refine Or.inl ⟨by rfl, ?_⟩; intro w hSw; (try dsimp only at hSw); first | (go_simp; done) | (go_simp; with_reducible rfl))
                  try simp only [Act.put, List.setIfInBounds_toArray, List.set_cons_zero, List.set_cons_succ]
                  refine wpAnyH_ready (rs := [5]) (by kernel_rfl) (by simp) ?_
                  refine AllReadyH.cons (o := ?r4_o5) ?r4_ho5 (fun K hK => ?_) AllReadyH.nil
                  case r4_ho5 => (conv => lhs; whnf; arg 1; whnf)
                  refine step_call_gu rfl CEK.out _ _ rfl #[.int .i64 0, .int .i64 xp] rfl (CK0.out _) ?_; rintro r wa ⟨rfl, hwa⟩; refine ⟨_, rfl, ?_⟩; have hxa := Ex.trans (Ex.refl _).drew hwa
                  refine hK.out _ _ ?r4_hS5 (fun hHeld5 => ?_)
                  case r4_hS5 => exact FK9.out _ hxa
                  clear hK K hHeld
                  try simp only [Act.put, List.setIfInBounds_toArray, List.set_cons_zero, List.set_cons_succ]
                  refine wpAnyH_ready (rs := [6]) (by kernel_rfl) (by simp) ?_
                  refine AllReadyH.cons (o := ?r4_o6) ?r4_ho6 (fun K hK => ?_) AllReadyH.nil
                  case r4_ho6 => (conv => lhs; whnf; arg 1; whnf)
                  refine step_call_gu rfl CEF.out _ _ rfl #[.agg #[.slice A nb c, .slice (some ⟨b2, o2, none⟩) k d], .agg #[.int .i64 kk.space, .int .i64 kk.page]] rfl (CF0.out _ (HF.out.ex ((HQ.out.trans EW.out).trans hxa))) ?_; rintro r w3 ⟨rfl, he⟩; refine ⟨_, rfl, ?_⟩; have hx3 := Ex.trans hxa he
                  refine hK.out _ _ ?r4_hS6 (fun hHeld6 => ?_)
                  case r4_hS6 => exact FK9.out _ hx3
                  clear hK K hHeld5
                  try simp only [Act.put, List.setIfInBounds_toArray, List.set_cons_zero, List.set_cons_succ]
                  refine wpAnyH_take (i := 7) (oi := ?r4_o7) (v := ?r4_v7) ?r4_ho7 (by kernel_rfl) (by kernel_rfl) (by kernel_rfl) ?r4_hq7 ?r4_hy7 (by assumption) ?_
                  case r4_ho7 => (conv => lhs; whnf; arg 1; whnf)
                  case r4_hq7 => exact fun _ _ _ h => h
                  case r4_hy7 => (refine Or.inl ⟨by rfl, ?_⟩; intro w hSw; (try dsimp only at hSw); first | (go_simp; done) | (go_simp; with_reducible rfl))
                  try simp only [Act.put, List.setIfInBounds_toArray, List.set_cons_zero, List.set_cons_succ]
                  refine wpAnyH_done (by kernel_rfl) ?_ _
                  have HX3 := Lib.hid hx3
                  clear hx3 hxa he hwa
                  go_wp2_with fail
                  have FK10 : Hid (∀ w', Ex w3 w' → (w'.cell? ⟨gl, 3, none⟩ = some (.int .i64 (i : Int)) ∧ w'.cell? ⟨gl, 4, none⟩ = some (.int .i64 xr) ∧ w'.cell? ⟨gm, 1, none⟩ = some (.slice (some ⟨b2, o2, none⟩) k d) ∧ w'.cell? ⟨b2, o2 + i * 5 + 3, none⟩ = some (.int .i64 f.rights))) := Lib.hid (fun w' h => ⟨(K1.out.ex (HX3.out.trans h)).c6.2.2.2.1, (K1.out.ex (HX3.out.trans h)).c6.2.2.2.2.1, (K0.out.ex (HX3.out.trans h)).c9.2.1, (((EW.out.trans HX3.out).trans h).cell HB2.out).trans Z3.out⟩)
                  refine wp_region_held_drew (S := (fun w' => (w'.cell? ⟨gl, 3, none⟩ = some (.int .i64 (i : Int)) ∧ w'.cell? ⟨gl, 4, none⟩ = some (.int .i64 xr) ∧ w'.cell? ⟨gm, 1, none⟩ = some (.slice (some ⟨b2, o2, none⟩) k d) ∧ w'.cell? ⟨b2, o2 + i * 5 + 3, none⟩ = some (.int .i64 f.rights)))) (by kernel_rfl) ?r5_hS0 (fun hHeld => ?_)
                  case r5_hS0 => exact FK10.out _ (Ex.refl _).drew
                  refine wpAnyH_take (i := 0) (oi := ?r5_o0) (v := ?r5_v0) ?r5_ho0 (by kernel_rfl) (by kernel_rfl) (by kernel_rfl) ?r5_hq0 ?r5_hy0 (by assumption) ?_
                  case r5_ho0 => (conv => lhs; whnf; arg 1; whnf)
                  case r5_hq0 => exact fun _ _ _ h => h
                  case r5_hy0 => (refine Or.inl ⟨by rfl, ?_⟩; intro w hSw; (try dsimp only at hSw); first | (go_simp; done) | (go_simp; with_reducible rfl))
                  try simp only [Act.put, List.setIfInBounds_toArray, List.set_cons_zero, List.set_cons_succ]
                  refine wpAnyH_take (i := 1) (oi := ?r5_o1) (v := ?r5_v1) ?r5_ho1 (by kernel_rfl) (by kernel_rfl) (by kernel_rfl) ?r5_hq1 ?r5_hy1 (by assumption) ?_
                  case r5_ho1 => (conv => lhs; whnf; arg 1; whnf)
                  case r5_hq1 => exact fun _ _ _ h => h
                  case r5_hy1 => (refine Or.inl ⟨by rfl, ?_⟩; intro w hSw; (try dsimp only at hSw); first | (go_simp; done) | (go_simp; with_reducible rfl))
                  try simp only [Act.put, List.setIfInBounds_toArray, List.set_cons_zero, List.set_cons_succ]
                  refine wpAnyH_take (i := 2) (oi := ?r5_o2) (v := ?r5_v2) ?r5_ho2 (by kernel_rfl) (by kernel_rfl) (by kernel_rfl) ?r5_hq2 ?r5_hy2 (by assumption) ?_
                  case r5_ho2 => (conv => lhs; whnf; arg 1; whnf)
                  case r5_hq2 => exact fun _ _ _ h => h
                  case r5_hy2 => (refine Or.inl ⟨by rfl, ?_⟩; intro w hSw; (try dsimp only at hSw); first | (go_simp; done) | (go_simp; with_reducible rfl))
                  try simp only [Act.put, List.setIfInBounds_toArray, List.set_cons_zero, List.set_cons_succ]
                  refine wpAnyH_take (i := 3) (oi := ?r5_o3) (v := ?r5_v3) ?r5_ho3 (by kernel_rfl) (by kernel_rfl) (by kernel_rfl) ?r5_hq3 ?r5_hy3 (by assumption) ?_
                  case r5_ho3 => (conv => lhs; whnf; arg 1; whnf)
                  case r5_hq3 => exact fun _ _ _ h => h
                  case r5_hy3 => (refine Or.inl ⟨by rfl, ?_⟩; intro w hSw; (try dsimp only at hSw); first | (go_simp; done) | (go_simp; with_reducible rfl))
                  try simp only [Act.put, List.setIfInBounds_toArray, List.set_cons_zero, List.set_cons_succ]
                  refine wpAnyH_take (i := 4) (oi := ?r5_o4) (v := ?r5_v4) ?r5_ho4 (by kernel_rfl) (by kernel_rfl) (by kernel_rfl) ?r5_hq4 ?r5_hy4 (by assumption) ?_
                  case r5_ho4 => (conv => lhs; whnf; arg 1; whnf)
                  case r5_hq4 => exact fun _ _ _ h => h
                  case r5_hy4 => (refine Or.inl ⟨by rfl, ?_⟩; intro w hSw; (try dsimp only at hSw); first | (go_simp; done) | (go_simp; with_reducible rfl))
                  try simp only [Act.put, List.setIfInBounds_toArray, List.set_cons_zero, List.set_cons_succ]
                  refine wpAnyH_take (i := 5) (oi := ?r5_o5) (v := ?r5_v5) ?r5_ho5 (by kernel_rfl) (by kernel_rfl) (by kernel_rfl) ?r5_hq5 ?r5_hy5 (by assumption) ?_
                  case r5_ho5 => (conv => lhs; whnf; arg 1; whnf)
                  case r5_hq5 => exact fun _ _ _ h => h
                  case r5_hy5 => (refine Or.inl ⟨by rfl, ?_⟩; intro w hSw; (try dsimp only at hSw); first | (go_simp; done) | (go_simp; with_reducible rfl))
                  try simp only [Act.put, List.setIfInBounds_toArray, List.set_cons_zero, List.set_cons_succ]
                  refine wpAnyH_take (i := 6) (oi := ?r5_o6) (v := ?r5_v6) ?r5_ho6 (by kernel_rfl) (by kernel_rfl) (by kernel_rfl) ?r5_hq6 ?r5_hy6 (by assumption) ?_
                  case r5_ho6 => (conv => lhs; whnf; arg 1; whnf)
                  case r5_hq6 => exact fun _ _ _ h => h
                  case r5_hy6 => (refine Or.inl ⟨by rfl, ?_⟩; intro w hSw; (try dsimp only at hSw); first | (go_simp; done) | (go_simp; with_reducible rfl))
                  try simp only [Act.put, List.setIfInBounds_toArray, List.set_cons_zero, List.set_cons_succ]
                  refine wpAnyH_take (i := 7) (oi := ?r5_o7) (v := ?r5_v7) ?r5_ho7 (by kernel_rfl) (by kernel_rfl) (by kernel_rfl) ?r5_hq7 ?r5_hy7 (by assumption) ?_
                  case r5_ho7 => (conv => lhs; whnf; arg 1; whnf)
                  case r5_hq7 => exact fun _ _ _ h => h
                  case r5_hy7 => (refine Or.inl ⟨by rfl, ?_⟩; intro w hSw; (try dsimp only at hSw); first | (go_simp; done) | (go_simp; with_reducible rfl))
                  try simp only [Act.put, List.setIfInBounds_toArray, List.set_cons_zero, List.set_cons_succ]
                  refine wpAnyH_take (i := 8) (oi := ?r5_o8) (v := ?r5_v8) ?r5_ho8 (by kernel_rfl) (by kernel_rfl) (by kernel_rfl) ?r5_hq8 ?r5_hy8 (by assumption) ?_
                  case r5_ho8 => (conv => lhs; whnf; arg 1; whnf)
                  case r5_hq8 => exact fun _ _ _ h => h
                  case r5_hy8 => (refine Or.inl ⟨by rfl, ?_⟩; intro w hSw; (try dsimp only at hSw); first | (go_simp; done) | (go_simp; with_reducible rfl))
                  try simp only [Act.put, List.setIfInBounds_toArray, List.set_cons_zero, List.set_cons_succ]
                  refine wpAnyH_take (i := 9) (oi := ?r5_o9) (v := ?r5_v9) ?r5_ho9 (by kernel_rfl) (by kernel_rfl) (by kernel_rfl) ?r5_hq9 ?r5_hy9 (by assumption) ?_
                  case r5_ho9 => (conv => lhs; whnf; arg 1; whnf)
                  case r5_hq9 => exact fun _ _ _ h => h
                  case r5_hy9 => (refine Or.inl ⟨by rfl, ?_⟩; intro w hSw; (try dsimp only at hSw); first | (go_simp; done) | (go_simp; with_reducible rfl))
                  try simp only [Act.put, List.setIfInBounds_toArray, List.set_cons_zero, List.set_cons_succ]
                  refine wpAnyH_take (i := 10) (oi := ?r5_o10) (v := ?r5_v10) ?r5_ho10 (by kernel_rfl) (by kernel_rfl) (by kernel_rfl) ?r5_hq10 ?r5_hy10 (by assumption) ?_
                  case r5_ho10 => (conv => lhs; whnf; arg 1; whnf)
                  case r5_hq10 => exact fun _ _ _ h => h
                  case r5_hy10 => (refine Or.inl ⟨by rfl, ?_⟩; intro w hSw; (try dsimp only at hSw); first | (go_simp; done) | (go_simp; with_reducible rfl))
                  try simp only [Act.put, List.setIfInBounds_toArray, List.set_cons_zero, List.set_cons_succ]
                  refine wpAnyH_take (i := 11) (oi := ?r5_o11) (v := ?r5_v11) ?r5_ho11 (by kernel_rfl) (by kernel_rfl) (by kernel_rfl) ?r5_hq11 ?r5_hy11 (by assumption) ?_
                  case r5_ho11 => (conv => lhs; whnf; arg 1; whnf)
                  case r5_hq11 => exact fun _ _ _ h => h
                  case r5_hy11 => (refine Or.inl ⟨by rfl, ?_⟩; intro w hSw; (try dsimp only at hSw); first | (go_simp; done) | (go_simp; with_reducible rfl))
                  try simp only [Act.put, List.setIfInBounds_toArray, List.set_cons_zero, List.set_cons_succ]
                  refine wpAnyH_take (i := 12) (oi := ?r5_o12) (v := ?r5_v12) ?r5_ho12 (by kernel_rfl) (by kernel_rfl) (by kernel_rfl) ?r5_hq12 ?r5_hy12 (by assumption) ?_
                  case r5_ho12 => (conv => lhs; whnf; arg 1; whnf)
                  case r5_hq12 => exact fun _ _ _ h => h
                  case r5_hy12 => (refine Or.inl ⟨by rfl, ?_⟩; intro w hSw; (try dsimp only at hSw); first | (go_simp; done) | (go_simp; with_reducible rfl))
                  try simp only [Act.put, List.setIfInBounds_toArray, List.set_cons_zero, List.set_cons_succ]
                  refine wpAnyH_take (i := 13) (oi := ?r5_o13) (v := ?r5_v13) ?r5_ho13 (by kernel_rfl) (by kernel_rfl) (by kernel_rfl) ?r5_hq13 ?r5_hy13 (by assumption) ?_
                  case r5_ho13 => (conv => lhs; whnf; arg 1; whnf)
                  case r5_hq13 => exact fun _ _ _ h => h
                  case r5_hy13 => (refine Or.inl ⟨by rfl, ?_⟩; intro w hSw; (try dsimp only at hSw); first | (go_simp; done) | (go_simp; with_reducible rfl))
                  try simp only [Act.put, List.setIfInBounds_toArray, List.set_cons_zero, List.set_cons_succ]
                  refine wpAnyH_take (i := 14) (oi := ?r5_o14) (v := ?r5_v14) ?r5_ho14 (by kernel_rfl) (by kernel_rfl) (by kernel_rfl) ?r5_hq14 ?r5_hy14 (by assumption) ?_
                  case r5_ho14 => (conv => lhs; whnf; arg 1; whnf)
                  case r5_hq14 => exact fun _ _ _ h => h
                  case r5_hy14 => (refine Or.inl ⟨by rfl, ?_⟩; intro w hSw; (try dsimp only at hSw); first | (go_simp; done) | (go_simp; with_reducible rfl))
                  try simp only [Act.put, List.setIfInBounds_toArray, List.set_cons_zero, List.set_cons_succ]
                  refine wpAnyH_take (i := 15) (oi := ?r5_o15) (v := ?r5_v15) ?r5_ho15 (by kernel_rfl) (by kernel_rfl) (by kernel_rfl) ?r5_hq15 ?r5_hy15 (by assumption) ?_
                  case r5_ho15 => (conv => lhs; whnf; arg 1; whnf)
                  case r5_hq15 => exact fun _ _ _ h => h
                  case r5_hy15 => (refine Or.inl ⟨by rfl, ?_⟩; intro w hSw; (try dsimp only at hSw); first | (go_simp; done) | (go_simp; with_reducible rfl))
                  try simp only [Act.put, List.setIfInBounds_toArray, List.set_cons_zero, List.set_cons_succ]
                  refine wpAnyH_take (i := 16) (oi := ?r5_o16) (v := ?r5_v16) ?r5_ho16 (by kernel_rfl) (by kernel_rfl) (by kernel_rfl) ?r5_hq16 ?r5_hy16 (by assumption) ?_
                  case r5_ho16 => (conv => lhs; whnf; arg 1; whnf)
                  case r5_hq16 => exact fun _ _ _ h => h
                  case r5_hy16 => (refine Or.inl ⟨by rfl, ?_⟩; intro w hSw; (try dsimp only at hSw); first | (go_simp; done) | (go_simp; with_reducible rfl))
                  try simp only [Act.put, List.setIfInBounds_toArray, List.set_cons_zero, List.set_cons_succ]
                  refine wpAnyH_take (i := 17) (oi := ?r5_o17) (v := ?r5_v17) ?r5_ho17 (by kernel_rfl) (by kernel_rfl) (by kernel_rfl) ?r5_hq17 ?r5_hy17 (by assumption) ?_
                  case r5_ho17 => (conv => lhs; whnf; arg 1; whnf)
                  case r5_hq17 => exact fun _ _ _ h => h
                  case r5_hy17 => (refine Or.inl ⟨by rfl, ?_⟩; intro w hSw; (try dsimp only at hSw); first | (go_simp; done) | (go_simp; with_reducible rfl))
                  try simp only [Act.put, List.setIfInBounds_toArray, List.set_cons_zero, List.set_cons_succ]
                  refine wpAnyH_take (i := 18) (oi := ?r5_o18) (v := ?r5_v18) ?r5_ho18 (by kernel_rfl) (by kernel_rfl) (by kernel_rfl) ?r5_hq18 ?r5_hy18 (by assumption) ?_
                  case r5_ho18 => (conv => lhs; whnf; arg 1; whnf)
                  case r5_hq18 => exact fun _ _ _ h => h
                  case r5_hy18 => (refine Or.inl ⟨by rfl, ?_⟩; intro w hSw; (try dsimp only at hSw); first | (go_simp; done) | (go_simp; with_reducible rfl))
                  try simp only [Act.put, List.setIfInBounds_toArray, List.set_cons_zero, List.set_cons_succ]
                  refine wpAnyH_take (i := 19) (oi := ?r5_o19) (v := ?r5_v19) ?r5_ho19 (by kernel_rfl) (by kernel_rfl) (by kernel_rfl) ?r5_hq19 ?r5_hy19 (by assumption) ?_
                  case r5_ho19 => (conv => lhs; whnf; arg 1; whnf)
                  case r5_hq19 => exact fun _ _ _ h => h
                  case r5_hy19 => (refine Or.inl ⟨by rfl, ?_⟩; intro w hSw; (try dsimp only at hSw); first | (go_simp; done) | (go_simp; with_reducible rfl))
                  try simp only [Act.put, List.setIfInBounds_toArray, List.set_cons_zero, List.set_cons_succ]
                  refine wpAnyH_done (by kernel_rfl) ?_ _
                  go_wp2
                  go_ret
                  exact HNO.out _ ((HQ.out.trans EW.out).trans HX3.out).drew HBAD.out
                have HFF := Lib.hid (HNEXT.out (fun _ => HIFF.out.2 ⟨hfr, hr⟩))
                clear HIFF
                subst hfr
                subst hr
                go_wp2_with fail
                obtain ⟨w0, hw0⟩ : ∃ w0 : World, w0 = wr.alloc (.cells #[.bool true, .int .i64 (-1), .int .i64 xp, .int .i64 (i : Int), .int .i64 f.rights, .bool false] 74) := ⟨_, rfl⟩
                obtain ⟨gl, hgl⟩ : ∃ gl : Nat, gl = wr.heap.size := ⟨_, rfl⟩
                have K0 : Hid (Blk w0 gm 46 [.slice A nb c, .slice (some ⟨b2, o2, none⟩) k d, .slice (some ⟨b3, o3, none⟩) nl e, .int .i64 m.cache.hand, .int .i64 m.tags.count, .int .i64 m.tags.next, .int .i64 m.tags.round, .slice O no g, .int .i64 m.space]) := Lib.hid (by rw [hw0]; exact KQ.out.alloc _)
                have K1 : Hid (Blk w0 gl 74 [.bool true, .int .i64 (-1), .int .i64 xp, .int .i64 (i : Int), .int .i64 f.rights, .bool false]) := Lib.hid (by rw [hw0, hgl]; exact Blk.new wr _ _)
                have EW : Hid (Ex wr w0) := Lib.hid (by rw [hw0]; exact (Ex.refl wr).alloc _)
                rw [← hw0]
                rw [← hgl]
                clear hw0 hgl
                clear q0 q1 q2 q3 q4 q5 q6 q7 q8 jM k0 k1 k2 k3 k4 k5
                have FK9 : Hid (∀ w', Ex w0 w' → (w'.cell? ⟨gm, 0, none⟩ = some (.slice A nb c) ∧ w'.cell? ⟨gm, 1, none⟩ = some (.slice (some ⟨b2, o2, none⟩) k d) ∧ w'.cell? ⟨gl, 2, none⟩ = some (.int .i64 xp))) := Lib.hid (fun w' h => ⟨(K0.out.ex h).c9.1, (K0.out.ex h).c9.2.1, (K1.out.ex h).c6.2.2.1⟩)
                refine wp_region_held_drew (S := (fun w' => (w'.cell? ⟨gm, 0, none⟩ = some (.slice A nb c) ∧ w'.cell? ⟨gm, 1, none⟩ = some (.slice (some ⟨b2, o2, none⟩) k d) ∧ w'.cell? ⟨gl, 2, none⟩ = some (.int .i64 xp)))) (by kernel_rfl) ?r6_hS0 (fun hHeld => ?_)
                case r6_hS0 => exact FK9.out _ (Ex.refl _).drew
                refine wpAnyH_take (i := 0) (oi := ?r6_o0) (v := ?r6_v0) ?r6_ho0 (by kernel_rfl) (by kernel_rfl) (by kernel_rfl) ?r6_hq0 ?r6_hy0 (by assumption) ?_
                case r6_ho0 => (conv => lhs; whnf; arg 1; whnf)
                case r6_hq0 => exact fun _ _ _ h => h
                case r6_hy0 => (refine Or.inl ⟨by rfl, ?_⟩; intro w hSw; (try dsimp only at hSw); first | (go_simp; done) | (go_simp; with_reducible rfl))
                try simp only [Act.put, List.setIfInBounds_toArray, List.set_cons_zero, List.set_cons_succ]
                refine wpAnyH_take (i := 1) (oi := ?r6_o1) (v := ?r6_v1) ?r6_ho1 (by kernel_rfl) (by kernel_rfl) (by kernel_rfl) ?r6_hq1 ?r6_hy1 (by assumption) ?_
                case r6_ho1 => (conv => lhs; whnf; arg 1; whnf)
                case r6_hq1 => exact fun _ _ _ h => h
                case r6_hy1 => (refine Or.inl ⟨by rfl, ?_⟩; intro w hSw; (try dsimp only at hSw); first | (go_simp; done) | (go_simp; with_reducible rfl))
                try simp only [Act.put, List.setIfInBounds_toArray, List.set_cons_zero, List.set_cons_succ]
                refine wpAnyH_take (i := 2) (oi := ?r6_o2) (v := ?r6_v2) ?r6_ho2 (by kernel_rfl) (by kernel_rfl) (by kernel_rfl) ?r6_hq2 ?r6_hy2 (by assumption) ?_
                case r6_ho2 => (conv => lhs; whnf; arg 1; whnf)
                case r6_hq2 => exact fun _ _ _ h => h
                case r6_hy2 => (refine Or.inl ⟨by rfl, ?_⟩; intro w hSw; (try dsimp only at hSw); first | (go_simp; done) | (go_simp; with_reducible rfl))
                try simp only [Act.put, List.setIfInBounds_toArray, List.set_cons_zero, List.set_cons_succ]
                refine wpAnyH_take (i := 3) (oi := ?r6_o3) (v := ?r6_v3) ?r6_ho3 (by kernel_rfl) (by kernel_rfl) (by kernel_rfl) ?r6_hq3 ?r6_hy3 (by assumption) ?_
                case r6_ho3 => (conv => lhs; whnf; arg 1; whnf)
                case r6_hq3 => exact fun _ _ _ h => h
                case r6_hy3 => (refine Or.inl ⟨by rfl, ?_⟩; intro w hSw; (try dsimp only at hSw); first | (go_simp; done) | (go_simp; with_reducible rfl))
                try simp only [Act.put, List.setIfInBounds_toArray, List.set_cons_zero, List.set_cons_succ]
                refine wpAnyH_take (i := 4) (oi := ?r6_o4) (v := ?r6_v4) ?r6_ho4 (by kernel_rfl) (by kernel_rfl) (by kernel_rfl) ?r6_hq4 ?r6_hy4 (by assumption) ?_
                case r6_ho4 => (conv => lhs; whnf; arg 1; whnf)
                case r6_hq4 => exact fun _ _ _ h => h
                case r6_hy4 => (refine Or.inl ⟨by rfl, ?_⟩; intro w hSw; (try dsimp only at hSw); first | (go_simp; done) | (go_simp; with_reducible rfl))
                try simp only [Act.put, List.setIfInBounds_toArray, List.set_cons_zero, List.set_cons_succ]
                refine wpAnyH_ready (rs := [5]) (by kernel_rfl) (by simp) ?_
                refine AllReadyH.cons (o := ?r6_o5) ?r6_ho5 (fun K hK => ?_) AllReadyH.nil
                case r6_ho5 => (conv => lhs; whnf; arg 1; whnf)
                refine step_call_gu rfl CEK.out _ _ rfl #[.int .i64 0, .int .i64 xp] rfl (CK0.out _) ?_; rintro r wa ⟨rfl, hwa⟩; refine ⟨_, rfl, ?_⟩; have hxa := Ex.trans (Ex.refl _).drew hwa
                refine hK.out _ _ ?r6_hS5 (fun hHeld5 => ?_)
                case r6_hS5 => exact FK9.out _ hxa
                clear hK K hHeld
                try simp only [Act.put, List.setIfInBounds_toArray, List.set_cons_zero, List.set_cons_succ]
                refine wpAnyH_ready (rs := [6]) (by kernel_rfl) (by simp) ?_
                refine AllReadyH.cons (o := ?r6_o6) ?r6_ho6 (fun K hK => ?_) AllReadyH.nil
                case r6_ho6 => (conv => lhs; whnf; arg 1; whnf)
                refine step_call_gu rfl CEF.out _ _ rfl #[.agg #[.slice A nb c, .slice (some ⟨b2, o2, none⟩) k d], .agg #[.int .i64 kk.space, .int .i64 kk.page]] rfl (CF0.out _ (HF.out.ex ((HQ.out.trans EW.out).trans hxa))) ?_; rintro r w3 ⟨rfl, he⟩; refine ⟨_, rfl, ?_⟩; have hx3 := Ex.trans hxa he
                refine hK.out _ _ ?r6_hS6 (fun hHeld6 => ?_)
                case r6_hS6 => exact FK9.out _ hx3
                clear hK K hHeld5
                try simp only [Act.put, List.setIfInBounds_toArray, List.set_cons_zero, List.set_cons_succ]
                refine wpAnyH_take (i := 7) (oi := ?r6_o7) (v := ?r6_v7) ?r6_ho7 (by kernel_rfl) (by kernel_rfl) (by kernel_rfl) ?r6_hq7 ?r6_hy7 (by assumption) ?_
                case r6_ho7 => (conv => lhs; whnf; arg 1; whnf)
                case r6_hq7 => exact fun _ _ _ h => h
                case r6_hy7 => (refine Or.inl ⟨by rfl, ?_⟩; intro w hSw; (try dsimp only at hSw); first | (go_simp; done) | (go_simp; with_reducible rfl))
                try simp only [Act.put, List.setIfInBounds_toArray, List.set_cons_zero, List.set_cons_succ]
                refine wpAnyH_done (by kernel_rfl) ?_ _
                have HX3 := Lib.hid hx3
                clear hx3 hxa he hwa
                go_wp2_with fail
                have FK10 : Hid (∀ w', Ex w3 w' → (w'.cell? ⟨gl, 3, none⟩ = some (.int .i64 (i : Int)) ∧ w'.cell? ⟨gl, 4, none⟩ = some (.int .i64 f.rights) ∧ w'.cell? ⟨gm, 1, none⟩ = some (.slice (some ⟨b2, o2, none⟩) k d) ∧ w'.cell? ⟨b2, o2 + i * 5 + 3, none⟩ = some (.int .i64 f.rights))) := Lib.hid (fun w' h => ⟨(K1.out.ex (HX3.out.trans h)).c6.2.2.2.1, (K1.out.ex (HX3.out.trans h)).c6.2.2.2.2.1, (K0.out.ex (HX3.out.trans h)).c9.2.1, (((EW.out.trans HX3.out).trans h).cell HB2.out).trans Z3.out⟩)
                refine wp_region_held_drew (S := (fun w' => (w'.cell? ⟨gl, 3, none⟩ = some (.int .i64 (i : Int)) ∧ w'.cell? ⟨gl, 4, none⟩ = some (.int .i64 f.rights) ∧ w'.cell? ⟨gm, 1, none⟩ = some (.slice (some ⟨b2, o2, none⟩) k d) ∧ w'.cell? ⟨b2, o2 + i * 5 + 3, none⟩ = some (.int .i64 f.rights)))) (by kernel_rfl) ?r7_hS0 (fun hHeld => ?_)
                case r7_hS0 => exact FK10.out _ (Ex.refl _).drew
                refine wpAnyH_take (i := 0) (oi := ?r7_o0) (v := ?r7_v0) ?r7_ho0 (by kernel_rfl) (by kernel_rfl) (by kernel_rfl) ?r7_hq0 ?r7_hy0 (by assumption) ?_
                case r7_ho0 => (conv => lhs; whnf; arg 1; whnf)
                case r7_hq0 => exact fun _ _ _ h => h
                case r7_hy0 => (refine Or.inl ⟨by rfl, ?_⟩; intro w hSw; (try dsimp only at hSw); first | (go_simp; done) | (go_simp; with_reducible rfl))
                try simp only [Act.put, List.setIfInBounds_toArray, List.set_cons_zero, List.set_cons_succ]
                refine wpAnyH_take (i := 1) (oi := ?r7_o1) (v := ?r7_v1) ?r7_ho1 (by kernel_rfl) (by kernel_rfl) (by kernel_rfl) ?r7_hq1 ?r7_hy1 (by assumption) ?_
                case r7_ho1 => (conv => lhs; whnf; arg 1; whnf)
                case r7_hq1 => exact fun _ _ _ h => h
                case r7_hy1 => (refine Or.inl ⟨by rfl, ?_⟩; intro w hSw; (try dsimp only at hSw); first | (go_simp; done) | (go_simp; with_reducible rfl))
                try simp only [Act.put, List.setIfInBounds_toArray, List.set_cons_zero, List.set_cons_succ]
                refine wpAnyH_take (i := 2) (oi := ?r7_o2) (v := ?r7_v2) ?r7_ho2 (by kernel_rfl) (by kernel_rfl) (by kernel_rfl) ?r7_hq2 ?r7_hy2 (by assumption) ?_
                case r7_ho2 => (conv => lhs; whnf; arg 1; whnf)
                case r7_hq2 => exact fun _ _ _ h => h
                case r7_hy2 => (refine Or.inl ⟨by rfl, ?_⟩; intro w hSw; (try dsimp only at hSw); first | (go_simp; done) | (go_simp; with_reducible rfl))
                try simp only [Act.put, List.setIfInBounds_toArray, List.set_cons_zero, List.set_cons_succ]
                refine wpAnyH_take (i := 3) (oi := ?r7_o3) (v := ?r7_v3) ?r7_ho3 (by kernel_rfl) (by kernel_rfl) (by kernel_rfl) ?r7_hq3 ?r7_hy3 (by assumption) ?_
                case r7_ho3 => (conv => lhs; whnf; arg 1; whnf)
                case r7_hq3 => exact fun _ _ _ h => h
                case r7_hy3 => (refine Or.inl ⟨by rfl, ?_⟩; intro w hSw; (try dsimp only at hSw); first | (go_simp; done) | (go_simp; with_reducible rfl))
                try simp only [Act.put, List.setIfInBounds_toArray, List.set_cons_zero, List.set_cons_succ]
                refine wpAnyH_take (i := 4) (oi := ?r7_o4) (v := ?r7_v4) ?r7_ho4 (by kernel_rfl) (by kernel_rfl) (by kernel_rfl) ?r7_hq4 ?r7_hy4 (by assumption) ?_
                case r7_ho4 => (conv => lhs; whnf; arg 1; whnf)
                case r7_hq4 => exact fun _ _ _ h => h
                case r7_hy4 => (refine Or.inl ⟨by rfl, ?_⟩; intro w hSw; (try dsimp only at hSw); first | (go_simp; done) | (go_simp; with_reducible rfl))
                try simp only [Act.put, List.setIfInBounds_toArray, List.set_cons_zero, List.set_cons_succ]
                refine wpAnyH_take (i := 5) (oi := ?r7_o5) (v := ?r7_v5) ?r7_ho5 (by kernel_rfl) (by kernel_rfl) (by kernel_rfl) ?r7_hq5 ?r7_hy5 (by assumption) ?_
                case r7_ho5 => (conv => lhs; whnf; arg 1; whnf)
                case r7_hq5 => exact fun _ _ _ h => h
                case r7_hy5 => (refine Or.inl ⟨by rfl, ?_⟩; intro w hSw; (try dsimp only at hSw); first | (go_simp; done) | (go_simp; with_reducible rfl))
                try simp only [Act.put, List.setIfInBounds_toArray, List.set_cons_zero, List.set_cons_succ]
                refine wpAnyH_take (i := 6) (oi := ?r7_o6) (v := ?r7_v6) ?r7_ho6 (by kernel_rfl) (by kernel_rfl) (by kernel_rfl) ?r7_hq6 ?r7_hy6 (by assumption) ?_
                case r7_ho6 => (conv => lhs; whnf; arg 1; whnf)
                case r7_hq6 => exact fun _ _ _ h => h
                case r7_hy6 => (refine Or.inl ⟨by rfl, ?_⟩; intro w hSw; (try dsimp only at hSw); first | (go_simp; done) | (go_simp; with_reducible rfl))
                try simp only [Act.put, List.setIfInBounds_toArray, List.set_cons_zero, List.set_cons_succ]
                refine wpAnyH_take (i := 7) (oi := ?r7_o7) (v := ?r7_v7) ?r7_ho7 (by kernel_rfl) (by kernel_rfl) (by kernel_rfl) ?r7_hq7 ?r7_hy7 (by assumption) ?_
                case r7_ho7 => (conv => lhs; whnf; arg 1; whnf)
                case r7_hq7 => exact fun _ _ _ h => h
                case r7_hy7 => (refine Or.inl ⟨by rfl, ?_⟩; intro w hSw; (try dsimp only at hSw); first | (go_simp; done) | (go_simp; with_reducible rfl))
                try simp only [Act.put, List.setIfInBounds_toArray, List.set_cons_zero, List.set_cons_succ]
                refine wpAnyH_take (i := 8) (oi := ?r7_o8) (v := ?r7_v8) ?r7_ho8 (by kernel_rfl) (by kernel_rfl) (by kernel_rfl) ?r7_hq8 ?r7_hy8 (by assumption) ?_
                case r7_ho8 => (conv => lhs; whnf; arg 1; whnf)
                case r7_hq8 => exact fun _ _ _ h => h
                case r7_hy8 => (refine Or.inl ⟨by rfl, ?_⟩; intro w hSw; (try dsimp only at hSw); first | (go_simp; done) | (go_simp; with_reducible rfl))
                try simp only [Act.put, List.setIfInBounds_toArray, List.set_cons_zero, List.set_cons_succ]
                refine wpAnyH_take (i := 9) (oi := ?r7_o9) (v := ?r7_v9) ?r7_ho9 (by kernel_rfl) (by kernel_rfl) (by kernel_rfl) ?r7_hq9 ?r7_hy9 (by assumption) ?_
                case r7_ho9 => (conv => lhs; whnf; arg 1; whnf)
                case r7_hq9 => exact fun _ _ _ h => h
                case r7_hy9 => (refine Or.inl ⟨by rfl, ?_⟩; intro w hSw; (try dsimp only at hSw); first | (go_simp; done) | (go_simp; with_reducible rfl))
                try simp only [Act.put, List.setIfInBounds_toArray, List.set_cons_zero, List.set_cons_succ]
                refine wpAnyH_take (i := 10) (oi := ?r7_o10) (v := ?r7_v10) ?r7_ho10 (by kernel_rfl) (by kernel_rfl) (by kernel_rfl) ?r7_hq10 ?r7_hy10 (by assumption) ?_
                case r7_ho10 => (conv => lhs; whnf; arg 1; whnf)
                case r7_hq10 => exact fun _ _ _ h => h
                case r7_hy10 => (refine Or.inl ⟨by rfl, ?_⟩; intro w hSw; (try dsimp only at hSw); first | (go_simp; done) | (go_simp; with_reducible rfl))
                try simp only [Act.put, List.setIfInBounds_toArray, List.set_cons_zero, List.set_cons_succ]
                refine wpAnyH_take (i := 11) (oi := ?r7_o11) (v := ?r7_v11) ?r7_ho11 (by kernel_rfl) (by kernel_rfl) (by kernel_rfl) ?r7_hq11 ?r7_hy11 (by assumption) ?_
                case r7_ho11 => (conv => lhs; whnf; arg 1; whnf)
                case r7_hq11 => exact fun _ _ _ h => h
                case r7_hy11 => (refine Or.inl ⟨by rfl, ?_⟩; intro w hSw; (try dsimp only at hSw); first | (go_simp; done) | (go_simp; with_reducible rfl))
                try simp only [Act.put, List.setIfInBounds_toArray, List.set_cons_zero, List.set_cons_succ]
                refine wpAnyH_take (i := 12) (oi := ?r7_o12) (v := ?r7_v12) ?r7_ho12 (by kernel_rfl) (by kernel_rfl) (by kernel_rfl) ?r7_hq12 ?r7_hy12 (by assumption) ?_
                case r7_ho12 => (conv => lhs; whnf; arg 1; whnf)
                case r7_hq12 => exact fun _ _ _ h => h
                case r7_hy12 => (refine Or.inl ⟨by rfl, ?_⟩; intro w hSw; (try dsimp only at hSw); first | (go_simp; done) | (go_simp; with_reducible rfl))
                try simp only [Act.put, List.setIfInBounds_toArray, List.set_cons_zero, List.set_cons_succ]
                refine wpAnyH_take (i := 13) (oi := ?r7_o13) (v := ?r7_v13) ?r7_ho13 (by kernel_rfl) (by kernel_rfl) (by kernel_rfl) ?r7_hq13 ?r7_hy13 (by assumption) ?_
                case r7_ho13 => (conv => lhs; whnf; arg 1; whnf)
                case r7_hq13 => exact fun _ _ _ h => h
                case r7_hy13 => (refine Or.inl ⟨by rfl, ?_⟩; intro w hSw; (try dsimp only at hSw); first | (go_simp; done) | (go_simp; with_reducible rfl))
                try simp only [Act.put, List.setIfInBounds_toArray, List.set_cons_zero, List.set_cons_succ]
                refine wpAnyH_take (i := 14) (oi := ?r7_o14) (v := ?r7_v14) ?r7_ho14 (by kernel_rfl) (by kernel_rfl) (by kernel_rfl) ?r7_hq14 ?r7_hy14 (by assumption) ?_
                case r7_ho14 => (conv => lhs; whnf; arg 1; whnf)
                case r7_hq14 => exact fun _ _ _ h => h
                case r7_hy14 => (refine Or.inl ⟨by rfl, ?_⟩; intro w hSw; (try dsimp only at hSw); first | (go_simp; done) | (go_simp; with_reducible rfl))
                try simp only [Act.put, List.setIfInBounds_toArray, List.set_cons_zero, List.set_cons_succ]
                refine wpAnyH_take (i := 15) (oi := ?r7_o15) (v := ?r7_v15) ?r7_ho15 (by kernel_rfl) (by kernel_rfl) (by kernel_rfl) ?r7_hq15 ?r7_hy15 (by assumption) ?_
                case r7_ho15 => (conv => lhs; whnf; arg 1; whnf)
                case r7_hq15 => exact fun _ _ _ h => h
                case r7_hy15 => (refine Or.inl ⟨by rfl, ?_⟩; intro w hSw; (try dsimp only at hSw); first | (go_simp; done) | (go_simp; with_reducible rfl))
                try simp only [Act.put, List.setIfInBounds_toArray, List.set_cons_zero, List.set_cons_succ]
                refine wpAnyH_take (i := 16) (oi := ?r7_o16) (v := ?r7_v16) ?r7_ho16 (by kernel_rfl) (by kernel_rfl) (by kernel_rfl) ?r7_hq16 ?r7_hy16 (by assumption) ?_
                case r7_ho16 => (conv => lhs; whnf; arg 1; whnf)
                case r7_hq16 => exact fun _ _ _ h => h
                case r7_hy16 => (refine Or.inl ⟨by rfl, ?_⟩; intro w hSw; (try dsimp only at hSw); first | (go_simp; done) | (go_simp; with_reducible rfl))
                try simp only [Act.put, List.setIfInBounds_toArray, List.set_cons_zero, List.set_cons_succ]
                refine wpAnyH_take (i := 17) (oi := ?r7_o17) (v := ?r7_v17) ?r7_ho17 (by kernel_rfl) (by kernel_rfl) (by kernel_rfl) ?r7_hq17 ?r7_hy17 (by assumption) ?_
                case r7_ho17 => (conv => lhs; whnf; arg 1; whnf)
                case r7_hq17 => exact fun _ _ _ h => h
                case r7_hy17 => (refine Or.inl ⟨by rfl, ?_⟩; intro w hSw; (try dsimp only at hSw); first | (go_simp; done) | (go_simp; with_reducible rfl))
                try simp only [Act.put, List.setIfInBounds_toArray, List.set_cons_zero, List.set_cons_succ]
                refine wpAnyH_take (i := 18) (oi := ?r7_o18) (v := ?r7_v18) ?r7_ho18 (by kernel_rfl) (by kernel_rfl) (by kernel_rfl) ?r7_hq18 ?r7_hy18 (by assumption) ?_
                case r7_ho18 => (conv => lhs; whnf; arg 1; whnf)
                case r7_hq18 => exact fun _ _ _ h => h
                case r7_hy18 => (refine Or.inl ⟨by rfl, ?_⟩; intro w hSw; (try dsimp only at hSw); first | (go_simp; done) | (go_simp; with_reducible rfl))
                try simp only [Act.put, List.setIfInBounds_toArray, List.set_cons_zero, List.set_cons_succ]
                refine wpAnyH_take (i := 19) (oi := ?r7_o19) (v := ?r7_v19) ?r7_ho19 (by kernel_rfl) (by kernel_rfl) (by kernel_rfl) ?r7_hq19 ?r7_hy19 (by assumption) ?_
                case r7_ho19 => (conv => lhs; whnf; arg 1; whnf)
                case r7_hq19 => exact fun _ _ _ h => h
                case r7_hy19 => (refine Or.inl ⟨by rfl, ?_⟩; intro w hSw; (try dsimp only at hSw); first | (go_simp; done) | (go_simp; with_reducible rfl))
                try simp only [Act.put, List.setIfInBounds_toArray, List.set_cons_zero, List.set_cons_succ]
                refine wpAnyH_done (by kernel_rfl) ?_ _
                go_wp2
                go_roundw
                case rel => exact ⟨q + 1, by omega, by go_num, ((HQ4.out.trans EW.out).trans HX3.out).drew, HFF.out⟩
                case measure => simp [intOf]; omega
              · skip
                have CK0 := Lib.hid (fun w' => CK.out 0 xp w')
                generalize keyFor 0 xp = kk at hq CK0
                have CF0 := Lib.hid (fun w' h => CF.out kk w' h)
                rcases findF_range (t := m.table) kk with hm | ⟨i, f, hm, hfi⟩
                · have HBAD : Hid (¬ MachOk m) := Lib.hid (fun h => by obtain ⟨i, f, h1, _⟩ := (h.2.2 q _ HXI.out rfl).2.2.1; rw [hq, hm] at h1; omega)
                  rw [hm] at CF0
                  clear hq hm
                  go_wp2_with fail
                  obtain ⟨w0, hw0⟩ : ∃ w0 : World, w0 = wr.alloc (.cells #[.bool true, .int .i64 (-1), .int .i64 xp, .int .i64 xf, .int .i64 xr, .bool true] 74) := ⟨_, rfl⟩
                  obtain ⟨gl, hgl⟩ : ∃ gl : Nat, gl = wr.heap.size := ⟨_, rfl⟩
                  have K0 : Hid (Blk w0 gm 46 [.slice A nb c, .slice B k d, .slice (some ⟨b3, o3, none⟩) nl e, .int .i64 m.cache.hand, .int .i64 m.tags.count, .int .i64 m.tags.next, .int .i64 m.tags.round, .slice O no g, .int .i64 m.space]) := Lib.hid (by rw [hw0]; exact KQ.out.alloc _)
                  have K1 : Hid (Blk w0 gl 74 [.bool true, .int .i64 (-1), .int .i64 xp, .int .i64 xf, .int .i64 xr, .bool true]) := Lib.hid (by rw [hw0, hgl]; exact Blk.new wr _ _)
                  have EW : Hid (Ex wr w0) := Lib.hid (by rw [hw0]; exact (Ex.refl wr).alloc _)
                  rw [← hw0]
                  rw [← hgl]
                  clear hw0 hgl
                  clear q0 q1 q2 q3 q4 q5 q6 q7 q8 jM k0 k1 k2 k3 k4 k5
                  have FK9 : Hid (∀ w', Ex w0 w' → (w'.cell? ⟨gm, 0, none⟩ = some (.slice A nb c) ∧ w'.cell? ⟨gm, 1, none⟩ = some (.slice B k d) ∧ w'.cell? ⟨gl, 2, none⟩ = some (.int .i64 xp))) := Lib.hid (fun w' h => ⟨(K0.out.ex h).c9.1, (K0.out.ex h).c9.2.1, (K1.out.ex h).c6.2.2.1⟩)
                  refine wp_region_held_drew (S := (fun w' => (w'.cell? ⟨gm, 0, none⟩ = some (.slice A nb c) ∧ w'.cell? ⟨gm, 1, none⟩ = some (.slice B k d) ∧ w'.cell? ⟨gl, 2, none⟩ = some (.int .i64 xp)))) (by kernel_rfl) ?r8_hS0 (fun hHeld => ?_)
                  case r8_hS0 => exact FK9.out _ (Ex.refl _).drew
                  refine wpAnyH_take (i := 0) (oi := ?r8_o0) (v := ?r8_v0) ?r8_ho0 (by kernel_rfl) (by kernel_rfl) (by kernel_rfl) ?r8_hq0 ?r8_hy0 (by assumption) ?_
                  case r8_ho0 => (conv => lhs; whnf; arg 1; whnf)
                  case r8_hq0 => exact fun _ _ _ h => h
                  case r8_hy0 => (refine Or.inl ⟨by rfl, ?_⟩; intro w hSw; (try dsimp only at hSw); first | (go_simp; done) | (go_simp; with_reducible rfl))
                  try simp only [Act.put, List.setIfInBounds_toArray, List.set_cons_zero, List.set_cons_succ]
                  refine wpAnyH_take (i := 1) (oi := ?r8_o1) (v := ?r8_v1) ?r8_ho1 (by kernel_rfl) (by kernel_rfl) (by kernel_rfl) ?r8_hq1 ?r8_hy1 (by assumption) ?_
                  case r8_ho1 => (conv => lhs; whnf; arg 1; whnf)
                  case r8_hq1 => exact fun _ _ _ h => h
                  case r8_hy1 => (refine Or.inl ⟨by rfl, ?_⟩; intro w hSw; (try dsimp only at hSw); first | (go_simp; done) | (go_simp; with_reducible rfl))
                  try simp only [Act.put, List.setIfInBounds_toArray, List.set_cons_zero, List.set_cons_succ]
                  refine wpAnyH_take (i := 2) (oi := ?r8_o2) (v := ?r8_v2) ?r8_ho2 (by kernel_rfl) (by kernel_rfl) (by kernel_rfl) ?r8_hq2 ?r8_hy2 (by assumption) ?_
                  case r8_ho2 => (conv => lhs; whnf; arg 1; whnf)
                  case r8_hq2 => exact fun _ _ _ h => h
                  case r8_hy2 => (refine Or.inl ⟨by rfl, ?_⟩; intro w hSw; (try dsimp only at hSw); first | (go_simp; done) | (go_simp; with_reducible rfl))
                  try simp only [Act.put, List.setIfInBounds_toArray, List.set_cons_zero, List.set_cons_succ]
                  refine wpAnyH_take (i := 3) (oi := ?r8_o3) (v := ?r8_v3) ?r8_ho3 (by kernel_rfl) (by kernel_rfl) (by kernel_rfl) ?r8_hq3 ?r8_hy3 (by assumption) ?_
                  case r8_ho3 => (conv => lhs; whnf; arg 1; whnf)
                  case r8_hq3 => exact fun _ _ _ h => h
                  case r8_hy3 => (refine Or.inl ⟨by rfl, ?_⟩; intro w hSw; (try dsimp only at hSw); first | (go_simp; done) | (go_simp; with_reducible rfl))
                  try simp only [Act.put, List.setIfInBounds_toArray, List.set_cons_zero, List.set_cons_succ]
                  refine wpAnyH_take (i := 4) (oi := ?r8_o4) (v := ?r8_v4) ?r8_ho4 (by kernel_rfl) (by kernel_rfl) (by kernel_rfl) ?r8_hq4 ?r8_hy4 (by assumption) ?_
                  case r8_ho4 => (conv => lhs; whnf; arg 1; whnf)
                  case r8_hq4 => exact fun _ _ _ h => h
                  case r8_hy4 => (refine Or.inl ⟨by rfl, ?_⟩; intro w hSw; (try dsimp only at hSw); first | (go_simp; done) | (go_simp; with_reducible rfl))
                  try simp only [Act.put, List.setIfInBounds_toArray, List.set_cons_zero, List.set_cons_succ]
                  refine wpAnyH_ready (rs := [5]) (by kernel_rfl) (by simp) ?_
                  refine AllReadyH.cons (o := ?r8_o5) ?r8_ho5 (fun K hK => ?_) AllReadyH.nil
                  case r8_ho5 => (conv => lhs; whnf; arg 1; whnf)
                  refine step_call_gu rfl CEK.out _ _ rfl #[.int .i64 0, .int .i64 xp] rfl (CK0.out _) ?_; rintro r wa ⟨rfl, hwa⟩; refine ⟨_, rfl, ?_⟩; have hxa := Ex.trans (Ex.refl _).drew hwa
                  refine hK.out _ _ ?r8_hS5 (fun hHeld5 => ?_)
                  case r8_hS5 => exact FK9.out _ hxa
                  clear hK K hHeld
                  try simp only [Act.put, List.setIfInBounds_toArray, List.set_cons_zero, List.set_cons_succ]
                  refine wpAnyH_ready (rs := [6]) (by kernel_rfl) (by simp) ?_
                  refine AllReadyH.cons (o := ?r8_o6) ?r8_ho6 (fun K hK => ?_) AllReadyH.nil
                  case r8_ho6 => (conv => lhs; whnf; arg 1; whnf)
                  refine step_call_gu rfl CEF.out _ _ rfl #[.agg #[.slice A nb c, .slice B k d], .agg #[.int .i64 kk.space, .int .i64 kk.page]] rfl (CF0.out _ (HF.out.ex ((HQ.out.trans EW.out).trans hxa))) ?_; rintro r w3 ⟨rfl, he⟩; refine ⟨_, rfl, ?_⟩; have hx3 := Ex.trans hxa he
                  refine hK.out _ _ ?r8_hS6 (fun hHeld6 => ?_)
                  case r8_hS6 => exact FK9.out _ hx3
                  clear hK K hHeld5
                  try simp only [Act.put, List.setIfInBounds_toArray, List.set_cons_zero, List.set_cons_succ]
                  refine wpAnyH_take (i := 7) (oi := ?r8_o7) (v := ?r8_v7) ?r8_ho7 (by kernel_rfl) (by kernel_rfl) (by kernel_rfl) ?r8_hq7 ?r8_hy7 (by assumption) ?_
                  case r8_ho7 => (conv => lhs; whnf; arg 1; whnf)
                  case r8_hq7 => exact fun _ _ _ h => h
                  case r8_hy7 => (refine Or.inl ⟨by rfl, ?_⟩; intro w hSw; (try dsimp only at hSw); first | (go_simp; done) | (go_simp; with_reducible rfl))
                  try simp only [Act.put, List.setIfInBounds_toArray, List.set_cons_zero, List.set_cons_succ]
                  refine wpAnyH_done (by kernel_rfl) ?_ _
                  have HX3 := Lib.hid hx3
                  clear hx3 hxa he hwa
                  go_wp2_with fail
                  have FK10 : Hid (∀ w', Ex w3 w' → True) := Lib.hid (fun w' h => trivial)
                  refine wp_region_held_drew (S := (fun w' => True)) (by kernel_rfl) ?r9_hS0 (fun hHeld => ?_)
                  case r9_hS0 => exact FK10.out _ (Ex.refl _).drew
                  refine wpAnyH_take (i := 0) (oi := ?r9_o0) (v := ?r9_v0) ?r9_ho0 (by kernel_rfl) (by kernel_rfl) (by kernel_rfl) ?r9_hq0 ?r9_hy0 (by assumption) ?_
                  case r9_ho0 => (conv => lhs; whnf; arg 1; whnf)
                  case r9_hq0 => exact fun _ _ _ h => h
                  case r9_hy0 => (refine Or.inl ⟨by rfl, ?_⟩; intro w hSw; (try dsimp only at hSw); first | (go_simp; done) | (go_simp; with_reducible rfl))
                  try simp only [Act.put, List.setIfInBounds_toArray, List.set_cons_zero, List.set_cons_succ]
                  refine wpAnyH_take (i := 1) (oi := ?r9_o1) (v := ?r9_v1) ?r9_ho1 (by kernel_rfl) (by kernel_rfl) (by kernel_rfl) ?r9_hq1 ?r9_hy1 (by assumption) ?_
                  case r9_ho1 => (conv => lhs; whnf; arg 1; whnf)
                  case r9_hq1 => exact fun _ _ _ h => h
                  case r9_hy1 => (refine Or.inl ⟨by rfl, ?_⟩; intro w hSw; (try dsimp only at hSw); first | (go_simp; done) | (go_simp; with_reducible rfl))
                  try simp only [Act.put, List.setIfInBounds_toArray, List.set_cons_zero, List.set_cons_succ]
                  refine wpAnyH_take (i := 2) (oi := ?r9_o2) (v := ?r9_v2) ?r9_ho2 (by kernel_rfl) (by kernel_rfl) (by kernel_rfl) ?r9_hq2 ?r9_hy2 (by assumption) ?_
                  case r9_ho2 => (conv => lhs; whnf; arg 1; whnf)
                  case r9_hq2 => exact fun _ _ _ h => h
                  case r9_hy2 => (refine Or.inl ⟨by rfl, ?_⟩; intro w hSw; (try dsimp only at hSw); first | (go_simp; done) | (go_simp; with_reducible rfl))
                  try simp only [Act.put, List.setIfInBounds_toArray, List.set_cons_zero, List.set_cons_succ]
                  refine wpAnyH_take (i := 3) (oi := ?r9_o3) (v := undef) ?r9_ho3 (by kernel_rfl) (by kernel_rfl) (by kernel_rfl) ?r9_hq3 ?r9_hy3 (by assumption) ?_
                  case r9_ho3 => (conv => lhs; whnf; arg 1; whnf)
                  case r9_hq3 => exact fun _ _ _ h => h
                  case r9_hy3 => exact Or.inr ⟨by rfl, rfl⟩
                  try simp only [Act.put, List.setIfInBounds_toArray, List.set_cons_zero, List.set_cons_succ]
                  refine wpAnyH_take (i := 4) (oi := ?r9_o4) (v := undef) ?r9_ho4 (by kernel_rfl) (by kernel_rfl) (by kernel_rfl) ?r9_hq4 ?r9_hy4 (by assumption) ?_
                  case r9_ho4 => (conv => lhs; whnf; arg 1; whnf)
                  case r9_hq4 => exact fun _ _ _ h => h
                  case r9_hy4 => exact Or.inr ⟨by rfl, rfl⟩
                  try simp only [Act.put, List.setIfInBounds_toArray, List.set_cons_zero, List.set_cons_succ]
                  refine wpAnyH_take (i := 5) (oi := ?r9_o5) (v := undef) ?r9_ho5 (by kernel_rfl) (by kernel_rfl) (by kernel_rfl) ?r9_hq5 ?r9_hy5 (by assumption) ?_
                  case r9_ho5 => (conv => lhs; whnf; arg 1; whnf)
                  case r9_hq5 => exact fun _ _ _ h => h
                  case r9_hy5 => exact Or.inr ⟨by rfl, rfl⟩
                  try simp only [Act.put, List.setIfInBounds_toArray, List.set_cons_zero, List.set_cons_succ]
                  refine wpAnyH_take (i := 6) (oi := ?r9_o6) (v := undef) ?r9_ho6 (by kernel_rfl) (by kernel_rfl) (by kernel_rfl) ?r9_hq6 ?r9_hy6 (by assumption) ?_
                  case r9_ho6 => (conv => lhs; whnf; arg 1; whnf)
                  case r9_hq6 => exact fun _ _ _ h => h
                  case r9_hy6 => exact Or.inr ⟨by rfl, rfl⟩
                  try simp only [Act.put, List.setIfInBounds_toArray, List.set_cons_zero, List.set_cons_succ]
                  refine wpAnyH_take (i := 7) (oi := ?r9_o7) (v := ?r9_v7) ?r9_ho7 (by kernel_rfl) (by kernel_rfl) (by kernel_rfl) ?r9_hq7 ?r9_hy7 (by assumption) ?_
                  case r9_ho7 => (conv => lhs; whnf; arg 1; whnf)
                  case r9_hq7 => exact fun _ _ _ h => h
                  case r9_hy7 => (refine Or.inl ⟨by rfl, ?_⟩; intro w hSw; (try dsimp only at hSw); first | (go_simp; done) | (go_simp; with_reducible rfl))
                  try simp only [Act.put, List.setIfInBounds_toArray, List.set_cons_zero, List.set_cons_succ]
                  refine wpAnyH_take (i := 8) (oi := ?r9_o8) (v := ?r9_v8) ?r9_ho8 (by kernel_rfl) (by kernel_rfl) (by kernel_rfl) ?r9_hq8 ?r9_hy8 (by assumption) ?_
                  case r9_ho8 => (conv => lhs; whnf; arg 1; whnf)
                  case r9_hq8 => exact fun _ _ _ h => h
                  case r9_hy8 => (refine Or.inl ⟨by rfl, ?_⟩; intro w hSw; (try dsimp only at hSw); first | (go_simp; done) | (go_simp; with_reducible rfl))
                  try simp only [Act.put, List.setIfInBounds_toArray, List.set_cons_zero, List.set_cons_succ]
                  refine wpAnyH_take (i := 9) (oi := ?r9_o9) (v := undef) ?r9_ho9 (by kernel_rfl) (by kernel_rfl) (by kernel_rfl) ?r9_hq9 ?r9_hy9 (by assumption) ?_
                  case r9_ho9 => (conv => lhs; whnf; arg 1; whnf)
                  case r9_hq9 => exact fun _ _ _ h => h
                  case r9_hy9 => exact Or.inr ⟨by rfl, rfl⟩
                  try simp only [Act.put, List.setIfInBounds_toArray, List.set_cons_zero, List.set_cons_succ]
                  refine wpAnyH_take (i := 10) (oi := ?r9_o10) (v := undef) ?r9_ho10 (by kernel_rfl) (by kernel_rfl) (by kernel_rfl) ?r9_hq10 ?r9_hy10 (by assumption) ?_
                  case r9_ho10 => (conv => lhs; whnf; arg 1; whnf)
                  case r9_hq10 => exact fun _ _ _ h => h
                  case r9_hy10 => exact Or.inr ⟨by rfl, rfl⟩
                  try simp only [Act.put, List.setIfInBounds_toArray, List.set_cons_zero, List.set_cons_succ]
                  refine wpAnyH_take (i := 11) (oi := ?r9_o11) (v := undef) ?r9_ho11 (by kernel_rfl) (by kernel_rfl) (by kernel_rfl) ?r9_hq11 ?r9_hy11 (by assumption) ?_
                  case r9_ho11 => (conv => lhs; whnf; arg 1; whnf)
                  case r9_hq11 => exact fun _ _ _ h => h
                  case r9_hy11 => exact Or.inr ⟨by rfl, rfl⟩
                  try simp only [Act.put, List.setIfInBounds_toArray, List.set_cons_zero, List.set_cons_succ]
                  refine wpAnyH_take (i := 12) (oi := ?r9_o12) (v := undef) ?r9_ho12 (by kernel_rfl) (by kernel_rfl) (by kernel_rfl) ?r9_hq12 ?r9_hy12 (by assumption) ?_
                  case r9_ho12 => (conv => lhs; whnf; arg 1; whnf)
                  case r9_hq12 => exact fun _ _ _ h => h
                  case r9_hy12 => exact Or.inr ⟨by rfl, rfl⟩
                  try simp only [Act.put, List.setIfInBounds_toArray, List.set_cons_zero, List.set_cons_succ]
                  refine wpAnyH_take (i := 13) (oi := ?r9_o13) (v := undef) ?r9_ho13 (by kernel_rfl) (by kernel_rfl) (by kernel_rfl) ?r9_hq13 ?r9_hy13 (by assumption) ?_
                  case r9_ho13 => (conv => lhs; whnf; arg 1; whnf)
                  case r9_hq13 => exact fun _ _ _ h => h
                  case r9_hy13 => exact Or.inr ⟨by rfl, rfl⟩
                  try simp only [Act.put, List.setIfInBounds_toArray, List.set_cons_zero, List.set_cons_succ]
                  refine wpAnyH_take (i := 14) (oi := ?r9_o14) (v := undef) ?r9_ho14 (by kernel_rfl) (by kernel_rfl) (by kernel_rfl) ?r9_hq14 ?r9_hy14 (by assumption) ?_
                  case r9_ho14 => (conv => lhs; whnf; arg 1; whnf)
                  case r9_hq14 => exact fun _ _ _ h => h
                  case r9_hy14 => exact Or.inr ⟨by rfl, rfl⟩
                  try simp only [Act.put, List.setIfInBounds_toArray, List.set_cons_zero, List.set_cons_succ]
                  refine wpAnyH_take (i := 15) (oi := ?r9_o15) (v := undef) ?r9_ho15 (by kernel_rfl) (by kernel_rfl) (by kernel_rfl) ?r9_hq15 ?r9_hy15 (by assumption) ?_
                  case r9_ho15 => (conv => lhs; whnf; arg 1; whnf)
                  case r9_hq15 => exact fun _ _ _ h => h
                  case r9_hy15 => exact Or.inr ⟨by rfl, rfl⟩
                  try simp only [Act.put, List.setIfInBounds_toArray, List.set_cons_zero, List.set_cons_succ]
                  refine wpAnyH_take (i := 16) (oi := ?r9_o16) (v := undef) ?r9_ho16 (by kernel_rfl) (by kernel_rfl) (by kernel_rfl) ?r9_hq16 ?r9_hy16 (by assumption) ?_
                  case r9_ho16 => (conv => lhs; whnf; arg 1; whnf)
                  case r9_hq16 => exact fun _ _ _ h => h
                  case r9_hy16 => exact Or.inr ⟨by rfl, rfl⟩
                  try simp only [Act.put, List.setIfInBounds_toArray, List.set_cons_zero, List.set_cons_succ]
                  refine wpAnyH_take (i := 17) (oi := ?r9_o17) (v := undef) ?r9_ho17 (by kernel_rfl) (by kernel_rfl) (by kernel_rfl) ?r9_hq17 ?r9_hy17 (by assumption) ?_
                  case r9_ho17 => (conv => lhs; whnf; arg 1; whnf)
                  case r9_hq17 => exact fun _ _ _ h => h
                  case r9_hy17 => exact Or.inr ⟨by rfl, rfl⟩
                  try simp only [Act.put, List.setIfInBounds_toArray, List.set_cons_zero, List.set_cons_succ]
                  refine wpAnyH_take (i := 18) (oi := ?r9_o18) (v := undef) ?r9_ho18 (by kernel_rfl) (by kernel_rfl) (by kernel_rfl) ?r9_hq18 ?r9_hy18 (by assumption) ?_
                  case r9_ho18 => (conv => lhs; whnf; arg 1; whnf)
                  case r9_hq18 => exact fun _ _ _ h => h
                  case r9_hy18 => exact Or.inr ⟨by rfl, rfl⟩
                  try simp only [Act.put, List.setIfInBounds_toArray, List.set_cons_zero, List.set_cons_succ]
                  refine wpAnyH_take (i := 19) (oi := ?r9_o19) (v := ?r9_v19) ?r9_ho19 (by kernel_rfl) (by kernel_rfl) (by kernel_rfl) ?r9_hq19 ?r9_hy19 (by assumption) ?_
                  case r9_ho19 => (conv => lhs; whnf; arg 1; whnf)
                  case r9_hq19 => exact fun _ _ _ h => h
                  case r9_hy19 => (refine Or.inl ⟨by rfl, ?_⟩; intro w hSw; (try dsimp only at hSw); first | (go_simp; done) | (go_simp; with_reducible rfl))
                  try simp only [Act.put, List.setIfInBounds_toArray, List.set_cons_zero, List.set_cons_succ]
                  refine wpAnyH_done (by kernel_rfl) ?_ _
                  go_wp2
                  go_ret
                  exact HNO.out _ ((HQ.out.trans EW.out).trans HX3.out).drew HBAD.out
                rw [hm] at CF0 hq
                have hin : i < k := by have := getElem?_lt hfi; have := HN.out; omega
                obtain ⟨b2, o2, f', rfl, hb2, hfi', z0, z1, z2, z3, z4⟩ := (HF.out.ex HQ.out).frame (k := i) (getElem?_lt hfi)
                have e : f = f' := by rw [hfi] at hfi'; injection hfi'
                subst e
                have HB2 := Lib.hid hb2
                have Z3 := Lib.hid z3
                have HIFF : Hid (LineFits m ⟨true, (-1), xp, xf, xr, true⟩ ↔ (i : Int) = xf ∧ f.rights = xr) := Lib.hid (by
                  constructor
                  · rintro ⟨_, _, ⟨i', f', h1, h2, h3, h4⟩, h5⟩
                    have e : i' = i := by rw [hq] at h1; omega
                    subst e
                    rw [hfi] at h3
                    injection h3 with h3
                    rw [h3]
                    exact ⟨h2, h4⟩
                  · rintro ⟨h1, h2⟩
                    exact ⟨HT1.out, HT2.out, ⟨i, f, hq, h1, hfi, h2⟩, HT3.out⟩)
                clear hb2 z0 z1 z2 z3 z4 hq hm hfi hfi'
                have hi0 : ¬ (i : Int) < 0 := by omega
                by_cases hfr : (i : Int) = xf
                rotate_left
                · have HBAD : Hid (¬ MachOk m) := Lib.hid (fun h => hfr (HIFF.out.1 (h.2.2 q _ HXI.out rfl)).1)
                  have hbb : ((i : Int) == xf) = false := by simpa using hfr
                  have hbn : ((i : Int) != xf) = true := by simpa using hfr
                  have hbm : (!((i : Int) == xf)) = true := by simpa using hfr
                  go_wp2_with fail
                  obtain ⟨w0, hw0⟩ : ∃ w0 : World, w0 = wr.alloc (.cells #[.bool true, .int .i64 (-1), .int .i64 xp, .int .i64 xf, .int .i64 xr, .bool true] 74) := ⟨_, rfl⟩
                  obtain ⟨gl, hgl⟩ : ∃ gl : Nat, gl = wr.heap.size := ⟨_, rfl⟩
                  have K0 : Hid (Blk w0 gm 46 [.slice A nb c, .slice (some ⟨b2, o2, none⟩) k d, .slice (some ⟨b3, o3, none⟩) nl e, .int .i64 m.cache.hand, .int .i64 m.tags.count, .int .i64 m.tags.next, .int .i64 m.tags.round, .slice O no g, .int .i64 m.space]) := Lib.hid (by rw [hw0]; exact KQ.out.alloc _)
                  have K1 : Hid (Blk w0 gl 74 [.bool true, .int .i64 (-1), .int .i64 xp, .int .i64 xf, .int .i64 xr, .bool true]) := Lib.hid (by rw [hw0, hgl]; exact Blk.new wr _ _)
                  have EW : Hid (Ex wr w0) := Lib.hid (by rw [hw0]; exact (Ex.refl wr).alloc _)
                  rw [← hw0]
                  rw [← hgl]
                  clear hw0 hgl
                  clear q0 q1 q2 q3 q4 q5 q6 q7 q8 jM k0 k1 k2 k3 k4 k5
                  have FK9 : Hid (∀ w', Ex w0 w' → (w'.cell? ⟨gm, 0, none⟩ = some (.slice A nb c) ∧ w'.cell? ⟨gm, 1, none⟩ = some (.slice (some ⟨b2, o2, none⟩) k d) ∧ w'.cell? ⟨gl, 2, none⟩ = some (.int .i64 xp))) := Lib.hid (fun w' h => ⟨(K0.out.ex h).c9.1, (K0.out.ex h).c9.2.1, (K1.out.ex h).c6.2.2.1⟩)
                  refine wp_region_held_drew (S := (fun w' => (w'.cell? ⟨gm, 0, none⟩ = some (.slice A nb c) ∧ w'.cell? ⟨gm, 1, none⟩ = some (.slice (some ⟨b2, o2, none⟩) k d) ∧ w'.cell? ⟨gl, 2, none⟩ = some (.int .i64 xp)))) (by kernel_rfl) ?r10_hS0 (fun hHeld => ?_)
                  case r10_hS0 => exact FK9.out _ (Ex.refl _).drew
                  refine wpAnyH_take (i := 0) (oi := ?r10_o0) (v := ?r10_v0) ?r10_ho0 (by kernel_rfl) (by kernel_rfl) (by kernel_rfl) ?r10_hq0 ?r10_hy0 (by assumption) ?_
                  case r10_ho0 => (conv => lhs; whnf; arg 1; whnf)
                  case r10_hq0 => exact fun _ _ _ h => h
                  case r10_hy0 => (refine Or.inl ⟨by rfl, ?_⟩; intro w hSw; (try dsimp only at hSw); first | (go_simp; done) | (go_simp; with_reducible rfl))
                  try simp only [Act.put, List.setIfInBounds_toArray, List.set_cons_zero, List.set_cons_succ]
                  refine wpAnyH_take (i := 1) (oi := ?r10_o1) (v := ?r10_v1) ?r10_ho1 (by kernel_rfl) (by kernel_rfl) (by kernel_rfl) ?r10_hq1 ?r10_hy1 (by assumption) ?_
                  case r10_ho1 => (conv => lhs; whnf; arg 1; whnf)
                  case r10_hq1 => exact fun _ _ _ h => h
                  case r10_hy1 => (refine Or.inl ⟨by rfl, ?_⟩; intro w hSw; (try dsimp only at hSw); first | (go_simp; done) | (go_simp; with_reducible rfl))
                  try simp only [Act.put, List.setIfInBounds_toArray, List.set_cons_zero, List.set_cons_succ]
                  refine wpAnyH_take (i := 2) (oi := ?r10_o2) (v := ?r10_v2) ?r10_ho2 (by kernel_rfl) (by kernel_rfl) (by kernel_rfl) ?r10_hq2 ?r10_hy2 (by assumption) ?_
                  case r10_ho2 => (conv => lhs; whnf; arg 1; whnf)
                  case r10_hq2 => exact fun _ _ _ h => h
                  case r10_hy2 => (refine Or.inl ⟨by rfl, ?_⟩; intro w hSw; (try dsimp only at hSw); first | (go_simp; done) | (go_simp; with_reducible rfl))
                  try simp only [Act.put, List.setIfInBounds_toArray, List.set_cons_zero, List.set_cons_succ]
                  refine wpAnyH_take (i := 3) (oi := ?r10_o3) (v := ?r10_v3) ?r10_ho3 (by kernel_rfl) (by kernel_rfl) (by kernel_rfl) ?r10_hq3 ?r10_hy3 (by assumption) ?_
                  case r10_ho3 => (conv => lhs; whnf; arg 1; whnf)
                  case r10_hq3 => exact fun _ _ _ h => h
                  case r10_hy3 => (refine Or.inl ⟨by rfl, ?_⟩; intro w hSw; (try dsimp only at hSw); first | (go_simp; done) | (go_simp; with_reducible rfl))
                  try simp only [Act.put, List.setIfInBounds_toArray, List.set_cons_zero, List.set_cons_succ]
                  refine wpAnyH_take (i := 4) (oi := ?r10_o4) (v := ?r10_v4) ?r10_ho4 (by kernel_rfl) (by kernel_rfl) (by kernel_rfl) ?r10_hq4 ?r10_hy4 (by assumption) ?_
                  case r10_ho4 => (conv => lhs; whnf; arg 1; whnf)
                  case r10_hq4 => exact fun _ _ _ h => h
                  case r10_hy4 => (refine Or.inl ⟨by rfl, ?_⟩; intro w hSw; (try dsimp only at hSw); first | (go_simp; done) | (go_simp; with_reducible rfl))
                  try simp only [Act.put, List.setIfInBounds_toArray, List.set_cons_zero, List.set_cons_succ]
                  refine wpAnyH_ready (rs := [5]) (by kernel_rfl) (by simp) ?_
                  refine AllReadyH.cons (o := ?r10_o5) ?r10_ho5 (fun K hK => ?_) AllReadyH.nil
                  case r10_ho5 => (conv => lhs; whnf; arg 1; whnf)
                  refine step_call_gu rfl CEK.out _ _ rfl #[.int .i64 0, .int .i64 xp] rfl (CK0.out _) ?_; rintro r wa ⟨rfl, hwa⟩; refine ⟨_, rfl, ?_⟩; have hxa := Ex.trans (Ex.refl _).drew hwa
                  refine hK.out _ _ ?r10_hS5 (fun hHeld5 => ?_)
                  case r10_hS5 => exact FK9.out _ hxa
                  clear hK K hHeld
                  try simp only [Act.put, List.setIfInBounds_toArray, List.set_cons_zero, List.set_cons_succ]
                  refine wpAnyH_ready (rs := [6]) (by kernel_rfl) (by simp) ?_
                  refine AllReadyH.cons (o := ?r10_o6) ?r10_ho6 (fun K hK => ?_) AllReadyH.nil
                  case r10_ho6 => (conv => lhs; whnf; arg 1; whnf)
                  refine step_call_gu rfl CEF.out _ _ rfl #[.agg #[.slice A nb c, .slice (some ⟨b2, o2, none⟩) k d], .agg #[.int .i64 kk.space, .int .i64 kk.page]] rfl (CF0.out _ (HF.out.ex ((HQ.out.trans EW.out).trans hxa))) ?_; rintro r w3 ⟨rfl, he⟩; refine ⟨_, rfl, ?_⟩; have hx3 := Ex.trans hxa he
                  refine hK.out _ _ ?r10_hS6 (fun hHeld6 => ?_)
                  case r10_hS6 => exact FK9.out _ hx3
                  clear hK K hHeld5
                  try simp only [Act.put, List.setIfInBounds_toArray, List.set_cons_zero, List.set_cons_succ]
                  refine wpAnyH_take (i := 7) (oi := ?r10_o7) (v := ?r10_v7) ?r10_ho7 (by kernel_rfl) (by kernel_rfl) (by kernel_rfl) ?r10_hq7 ?r10_hy7 (by assumption) ?_
                  case r10_ho7 => (conv => lhs; whnf; arg 1; whnf)
                  case r10_hq7 => exact fun _ _ _ h => h
                  case r10_hy7 => (refine Or.inl ⟨by rfl, ?_⟩; intro w hSw; (try dsimp only at hSw); first | (go_simp; done) | (go_simp; with_reducible rfl))
                  try simp only [Act.put, List.setIfInBounds_toArray, List.set_cons_zero, List.set_cons_succ]
                  refine wpAnyH_done (by kernel_rfl) ?_ _
                  have HX3 := Lib.hid hx3
                  clear hx3 hxa he hwa
                  go_wp2_with fail
                  have FK10 : Hid (∀ w', Ex w3 w' → (w'.cell? ⟨gl, 3, none⟩ = some (.int .i64 xf))) := Lib.hid (fun w' h => (K1.out.ex (HX3.out.trans h)).c6.2.2.2.1)
                  refine wp_region_held_drew (S := (fun w' => (w'.cell? ⟨gl, 3, none⟩ = some (.int .i64 xf)))) (by kernel_rfl) ?r11_hS0 (fun hHeld => ?_)
                  case r11_hS0 => exact FK10.out _ (Ex.refl _).drew
                  refine wpAnyH_take (i := 0) (oi := ?r11_o0) (v := ?r11_v0) ?r11_ho0 (by kernel_rfl) (by kernel_rfl) (by kernel_rfl) ?r11_hq0 ?r11_hy0 (by assumption) ?_
                  case r11_ho0 => (conv => lhs; whnf; arg 1; whnf)
                  case r11_hq0 => exact fun _ _ _ h => h
                  case r11_hy0 => (refine Or.inl ⟨by rfl, ?_⟩; intro w hSw; (try dsimp only at hSw); first | (go_simp; done) | (go_simp; with_reducible rfl))
                  try simp only [Act.put, List.setIfInBounds_toArray, List.set_cons_zero, List.set_cons_succ]
                  refine wpAnyH_take (i := 1) (oi := ?r11_o1) (v := ?r11_v1) ?r11_ho1 (by kernel_rfl) (by kernel_rfl) (by kernel_rfl) ?r11_hq1 ?r11_hy1 (by assumption) ?_
                  case r11_ho1 => (conv => lhs; whnf; arg 1; whnf)
                  case r11_hq1 => exact fun _ _ _ h => h
                  case r11_hy1 => (refine Or.inl ⟨by rfl, ?_⟩; intro w hSw; (try dsimp only at hSw); first | (go_simp; done) | (go_simp; with_reducible rfl))
                  try simp only [Act.put, List.setIfInBounds_toArray, List.set_cons_zero, List.set_cons_succ]
                  refine wpAnyH_take (i := 2) (oi := ?r11_o2) (v := ?r11_v2) ?r11_ho2 (by kernel_rfl) (by kernel_rfl) (by kernel_rfl) ?r11_hq2 ?r11_hy2 (by assumption) ?_
                  case r11_ho2 => (conv => lhs; whnf; arg 1; whnf)
                  case r11_hq2 => exact fun _ _ _ h => h
                  case r11_hy2 => (refine Or.inl ⟨by rfl, ?_⟩; intro w hSw; (try dsimp only at hSw); first | (go_simp; done) | (go_simp; with_reducible rfl))
                  try simp only [Act.put, List.setIfInBounds_toArray, List.set_cons_zero, List.set_cons_succ]
                  refine wpAnyH_take (i := 3) (oi := ?r11_o3) (v := ?r11_v3) ?r11_ho3 (by kernel_rfl) (by kernel_rfl) (by kernel_rfl) ?r11_hq3 ?r11_hy3 (by assumption) ?_
                  case r11_ho3 => (conv => lhs; whnf; arg 1; whnf)
                  case r11_hq3 => exact fun _ _ _ h => h
                  case r11_hy3 => (refine Or.inl ⟨by rfl, ?_⟩; intro w hSw; (try dsimp only at hSw); first | (go_simp; done) | (go_simp; with_reducible rfl))
                  try simp only [Act.put, List.setIfInBounds_toArray, List.set_cons_zero, List.set_cons_succ]
                  refine wpAnyH_take (i := 4) (oi := ?r11_o4) (v := ?r11_v4) ?r11_ho4 (by kernel_rfl) (by kernel_rfl) (by kernel_rfl) ?r11_hq4 ?r11_hy4 (by assumption) ?_
                  case r11_ho4 => (conv => lhs; whnf; arg 1; whnf)
                  case r11_hq4 => exact fun _ _ _ h => h
                  case r11_hy4 => (refine Or.inl ⟨by rfl, ?_⟩; intro w hSw; (try dsimp only at hSw); first | (go_simp; done) | (go_simp; with_reducible rfl))
                  try simp only [Act.put, List.setIfInBounds_toArray, List.set_cons_zero, List.set_cons_succ]
                  refine wpAnyH_take (i := 5) (oi := ?r11_o5) (v := ?r11_v5) ?r11_ho5 (by kernel_rfl) (by kernel_rfl) (by kernel_rfl) ?r11_hq5 ?r11_hy5 (by assumption) ?_
                  case r11_ho5 => (conv => lhs; whnf; arg 1; whnf)
                  case r11_hq5 => exact fun _ _ _ h => h
                  case r11_hy5 => (refine Or.inl ⟨by rfl, ?_⟩; intro w hSw; (try dsimp only at hSw); first | (go_simp; done) | (go_simp; with_reducible rfl))
                  try simp only [Act.put, List.setIfInBounds_toArray, List.set_cons_zero, List.set_cons_succ]
                  refine wpAnyH_take (i := 6) (oi := ?r11_o6) (v := ?r11_v6) ?r11_ho6 (by kernel_rfl) (by kernel_rfl) (by kernel_rfl) ?r11_hq6 ?r11_hy6 (by assumption) ?_
                  case r11_ho6 => (conv => lhs; whnf; arg 1; whnf)
                  case r11_hq6 => exact fun _ _ _ h => h
                  case r11_hy6 => (refine Or.inl ⟨by rfl, ?_⟩; intro w hSw; (try dsimp only at hSw); first | (go_simp; done) | (go_simp; with_reducible rfl))
                  try simp only [Act.put, List.setIfInBounds_toArray, List.set_cons_zero, List.set_cons_succ]
                  refine wpAnyH_take (i := 7) (oi := ?r11_o7) (v := ?r11_v7) ?r11_ho7 (by kernel_rfl) (by kernel_rfl) (by kernel_rfl) ?r11_hq7 ?r11_hy7 (by assumption) ?_
                  case r11_ho7 => (conv => lhs; whnf; arg 1; whnf)
                  case r11_hq7 => exact fun _ _ _ h => h
                  case r11_hy7 => (refine Or.inl ⟨by rfl, ?_⟩; intro w hSw; (try dsimp only at hSw); first | (go_simp; done) | (go_simp; with_reducible rfl))
                  try simp only [Act.put, List.setIfInBounds_toArray, List.set_cons_zero, List.set_cons_succ]
                  refine wpAnyH_take (i := 8) (oi := ?r11_o8) (v := ?r11_v8) ?r11_ho8 (by kernel_rfl) (by kernel_rfl) (by kernel_rfl) ?r11_hq8 ?r11_hy8 (by assumption) ?_
                  case r11_ho8 => (conv => lhs; whnf; arg 1; whnf)
                  case r11_hq8 => exact fun _ _ _ h => h
                  case r11_hy8 => (refine Or.inl ⟨by rfl, ?_⟩; intro w hSw; (try dsimp only at hSw); first | (go_simp; done) | (go_simp; with_reducible rfl))
                  try simp only [Act.put, List.setIfInBounds_toArray, List.set_cons_zero, List.set_cons_succ]
                  refine wpAnyH_take (i := 9) (oi := ?r11_o9) (v := undef) ?r11_ho9 (by kernel_rfl) (by kernel_rfl) (by kernel_rfl) ?r11_hq9 ?r11_hy9 (by assumption) ?_
                  case r11_ho9 => (conv => lhs; whnf; arg 1; whnf)
                  case r11_hq9 => exact fun _ _ _ h => h
                  case r11_hy9 => exact Or.inr ⟨by rfl, rfl⟩
                  try simp only [Act.put, List.setIfInBounds_toArray, List.set_cons_zero, List.set_cons_succ]
                  refine wpAnyH_take (i := 10) (oi := ?r11_o10) (v := undef) ?r11_ho10 (by kernel_rfl) (by kernel_rfl) (by kernel_rfl) ?r11_hq10 ?r11_hy10 (by assumption) ?_
                  case r11_ho10 => (conv => lhs; whnf; arg 1; whnf)
                  case r11_hq10 => exact fun _ _ _ h => h
                  case r11_hy10 => exact Or.inr ⟨by rfl, rfl⟩
                  try simp only [Act.put, List.setIfInBounds_toArray, List.set_cons_zero, List.set_cons_succ]
                  refine wpAnyH_take (i := 11) (oi := ?r11_o11) (v := undef) ?r11_ho11 (by kernel_rfl) (by kernel_rfl) (by kernel_rfl) ?r11_hq11 ?r11_hy11 (by assumption) ?_
                  case r11_ho11 => (conv => lhs; whnf; arg 1; whnf)
                  case r11_hq11 => exact fun _ _ _ h => h
                  case r11_hy11 => exact Or.inr ⟨by rfl, rfl⟩
                  try simp only [Act.put, List.setIfInBounds_toArray, List.set_cons_zero, List.set_cons_succ]
                  refine wpAnyH_take (i := 12) (oi := ?r11_o12) (v := undef) ?r11_ho12 (by kernel_rfl) (by kernel_rfl) (by kernel_rfl) ?r11_hq12 ?r11_hy12 (by assumption) ?_
                  case r11_ho12 => (conv => lhs; whnf; arg 1; whnf)
                  case r11_hq12 => exact fun _ _ _ h => h
                  case r11_hy12 => exact Or.inr ⟨by rfl, rfl⟩
                  try simp only [Act.put, List.setIfInBounds_toArray, List.set_cons_zero, List.set_cons_succ]
                  refine wpAnyH_take (i := 13) (oi := ?r11_o13) (v := undef) ?r11_ho13 (by kernel_rfl) (by kernel_rfl) (by kernel_rfl) ?r11_hq13 ?r11_hy13 (by assumption) ?_
                  case r11_ho13 => (conv => lhs; whnf; arg 1; whnf)
                  case r11_hq13 => exact fun _ _ _ h => h
                  case r11_hy13 => exact Or.inr ⟨by rfl, rfl⟩
                  try simp only [Act.put, List.setIfInBounds_toArray, List.set_cons_zero, List.set_cons_succ]
                  refine wpAnyH_take (i := 14) (oi := ?r11_o14) (v := undef) ?r11_ho14 (by kernel_rfl) (by kernel_rfl) (by kernel_rfl) ?r11_hq14 ?r11_hy14 (by assumption) ?_
                  case r11_ho14 => (conv => lhs; whnf; arg 1; whnf)
                  case r11_hq14 => exact fun _ _ _ h => h
                  case r11_hy14 => exact Or.inr ⟨by rfl, rfl⟩
                  try simp only [Act.put, List.setIfInBounds_toArray, List.set_cons_zero, List.set_cons_succ]
                  refine wpAnyH_take (i := 15) (oi := ?r11_o15) (v := undef) ?r11_ho15 (by kernel_rfl) (by kernel_rfl) (by kernel_rfl) ?r11_hq15 ?r11_hy15 (by assumption) ?_
                  case r11_ho15 => (conv => lhs; whnf; arg 1; whnf)
                  case r11_hq15 => exact fun _ _ _ h => h
                  case r11_hy15 => exact Or.inr ⟨by rfl, rfl⟩
                  try simp only [Act.put, List.setIfInBounds_toArray, List.set_cons_zero, List.set_cons_succ]
                  refine wpAnyH_take (i := 16) (oi := ?r11_o16) (v := undef) ?r11_ho16 (by kernel_rfl) (by kernel_rfl) (by kernel_rfl) ?r11_hq16 ?r11_hy16 (by assumption) ?_
                  case r11_ho16 => (conv => lhs; whnf; arg 1; whnf)
                  case r11_hq16 => exact fun _ _ _ h => h
                  case r11_hy16 => exact Or.inr ⟨by rfl, rfl⟩
                  try simp only [Act.put, List.setIfInBounds_toArray, List.set_cons_zero, List.set_cons_succ]
                  refine wpAnyH_take (i := 17) (oi := ?r11_o17) (v := undef) ?r11_ho17 (by kernel_rfl) (by kernel_rfl) (by kernel_rfl) ?r11_hq17 ?r11_hy17 (by assumption) ?_
                  case r11_ho17 => (conv => lhs; whnf; arg 1; whnf)
                  case r11_hq17 => exact fun _ _ _ h => h
                  case r11_hy17 => exact Or.inr ⟨by rfl, rfl⟩
                  try simp only [Act.put, List.setIfInBounds_toArray, List.set_cons_zero, List.set_cons_succ]
                  refine wpAnyH_take (i := 18) (oi := ?r11_o18) (v := undef) ?r11_ho18 (by kernel_rfl) (by kernel_rfl) (by kernel_rfl) ?r11_hq18 ?r11_hy18 (by assumption) ?_
                  case r11_ho18 => (conv => lhs; whnf; arg 1; whnf)
                  case r11_hq18 => exact fun _ _ _ h => h
                  case r11_hy18 => exact Or.inr ⟨by rfl, rfl⟩
                  try simp only [Act.put, List.setIfInBounds_toArray, List.set_cons_zero, List.set_cons_succ]
                  refine wpAnyH_take (i := 19) (oi := ?r11_o19) (v := ?r11_v19) ?r11_ho19 (by kernel_rfl) (by kernel_rfl) (by kernel_rfl) ?r11_hq19 ?r11_hy19 (by assumption) ?_
                  case r11_ho19 => (conv => lhs; whnf; arg 1; whnf)
                  case r11_hq19 => exact fun _ _ _ h => h
                  case r11_hy19 => (refine Or.inl ⟨by rfl, ?_⟩; intro w hSw; (try dsimp only at hSw); first | (go_simp; done) | (go_simp; with_reducible rfl))
                  try simp only [Act.put, List.setIfInBounds_toArray, List.set_cons_zero, List.set_cons_succ]
                  refine wpAnyH_done (by kernel_rfl) ?_ _
                  go_wp2
                  go_ret
                  exact HNO.out _ ((HQ.out.trans EW.out).trans HX3.out).drew HBAD.out
                by_cases hr : f.rights = xr
                rotate_left
                · have HBAD : Hid (¬ MachOk m) := Lib.hid (fun h => hr (HIFF.out.1 (h.2.2 q _ HXI.out rfl)).2)
                  have hbb : (f.rights == xr) = false := by simpa using hr
                  have hbn : (f.rights != xr) = true := by simpa using hr
                  have hbm : (!(f.rights == xr)) = true := by simpa using hr
                  clear HIFF
                  subst hfr
                  go_wp2_with fail
                  obtain ⟨w0, hw0⟩ : ∃ w0 : World, w0 = wr.alloc (.cells #[.bool true, .int .i64 (-1), .int .i64 xp, .int .i64 (i : Int), .int .i64 xr, .bool true] 74) := ⟨_, rfl⟩
                  obtain ⟨gl, hgl⟩ : ∃ gl : Nat, gl = wr.heap.size := ⟨_, rfl⟩
                  have K0 : Hid (Blk w0 gm 46 [.slice A nb c, .slice (some ⟨b2, o2, none⟩) k d, .slice (some ⟨b3, o3, none⟩) nl e, .int .i64 m.cache.hand, .int .i64 m.tags.count, .int .i64 m.tags.next, .int .i64 m.tags.round, .slice O no g, .int .i64 m.space]) := Lib.hid (by rw [hw0]; exact KQ.out.alloc _)
                  have K1 : Hid (Blk w0 gl 74 [.bool true, .int .i64 (-1), .int .i64 xp, .int .i64 (i : Int), .int .i64 xr, .bool true]) := Lib.hid (by rw [hw0, hgl]; exact Blk.new wr _ _)
                  have EW : Hid (Ex wr w0) := Lib.hid (by rw [hw0]; exact (Ex.refl wr).alloc _)
                  rw [← hw0]
                  rw [← hgl]
                  clear hw0 hgl
                  clear q0 q1 q2 q3 q4 q5 q6 q7 q8 jM k0 k1 k2 k3 k4 k5
                  have FK9 : Hid (∀ w', Ex w0 w' → (w'.cell? ⟨gm, 0, none⟩ = some (.slice A nb c) ∧ w'.cell? ⟨gm, 1, none⟩ = some (.slice (some ⟨b2, o2, none⟩) k d) ∧ w'.cell? ⟨gl, 2, none⟩ = some (.int .i64 xp))) := Lib.hid (fun w' h => ⟨(K0.out.ex h).c9.1, (K0.out.ex h).c9.2.1, (K1.out.ex h).c6.2.2.1⟩)
                  refine wp_region_held_drew (S := (fun w' => (w'.cell? ⟨gm, 0, none⟩ = some (.slice A nb c) ∧ w'.cell? ⟨gm, 1, none⟩ = some (.slice (some ⟨b2, o2, none⟩) k d) ∧ w'.cell? ⟨gl, 2, none⟩ = some (.int .i64 xp)))) (by kernel_rfl) ?r12_hS0 (fun hHeld => ?_)
                  case r12_hS0 => exact FK9.out _ (Ex.refl _).drew
                  refine wpAnyH_take (i := 0) (oi := ?r12_o0) (v := ?r12_v0) ?r12_ho0 (by kernel_rfl) (by kernel_rfl) (by kernel_rfl) ?r12_hq0 ?r12_hy0 (by assumption) ?_
                  case r12_ho0 => (conv => lhs; whnf; arg 1; whnf)
                  case r12_hq0 => exact fun _ _ _ h => h
                  case r12_hy0 => (refine Or.inl ⟨by rfl, ?_⟩; intro w hSw; (try dsimp only at hSw); first | (go_simp; done) | (go_simp; with_reducible rfl))
                  try simp only [Act.put, List.setIfInBounds_toArray, List.set_cons_zero, List.set_cons_succ]
                  refine wpAnyH_take (i := 1) (oi := ?r12_o1) (v := ?r12_v1) ?r12_ho1 (by kernel_rfl) (by kernel_rfl) (by kernel_rfl) ?r12_hq1 ?r12_hy1 (by assumption) ?_
                  case r12_ho1 => (conv => lhs; whnf; arg 1; whnf)
                  case r12_hq1 => exact fun _ _ _ h => h
                  case r12_hy1 => (refine Or.inl ⟨by rfl, ?_⟩; intro w hSw; (try dsimp only at hSw); first | (go_simp; done) | (go_simp; with_reducible rfl))
                  try simp only [Act.put, List.setIfInBounds_toArray, List.set_cons_zero, List.set_cons_succ]
                  refine wpAnyH_take (i := 2) (oi := ?r12_o2) (v := ?r12_v2) ?r12_ho2 (by kernel_rfl) (by kernel_rfl) (by kernel_rfl) ?r12_hq2 ?r12_hy2 (by assumption) ?_
                  case r12_ho2 => (conv => lhs; whnf; arg 1; whnf)
                  case r12_hq2 => exact fun _ _ _ h => h
                  case r12_hy2 => (refine Or.inl ⟨by rfl, ?_⟩; intro w hSw; (try dsimp only at hSw); first | (go_simp; done) | (go_simp; with_reducible rfl))
                  try simp only [Act.put, List.setIfInBounds_toArray, List.set_cons_zero, List.set_cons_succ]
                  refine wpAnyH_take (i := 3) (oi := ?r12_o3) (v := ?r12_v3) ?r12_ho3 (by kernel_rfl) (by kernel_rfl) (by kernel_rfl) ?r12_hq3 ?r12_hy3 (by assumption) ?_
                  case r12_ho3 => (conv => lhs; whnf; arg 1; whnf)
                  case r12_hq3 => exact fun _ _ _ h => h
                  case r12_hy3 => (refine Or.inl ⟨by rfl, ?_⟩; intro w hSw; (try dsimp only at hSw); first | (go_simp; done) | (go_simp; with_reducible rfl))
                  try simp only [Act.put, List.setIfInBounds_toArray, List.set_cons_zero, List.set_cons_succ]
                  refine wpAnyH_take (i := 4) (oi := ?r12_o4) (v := ?r12_v4) ?r12_ho4 (by kernel_rfl) (by kernel_rfl) (by kernel_rfl) ?r12_hq4 ?r12_hy4 (by assumption) ?_
                  case r12_ho4 => (conv => lhs; whnf; arg 1; whnf)
                  case r12_hq4 => exact fun _ _ _ h => h
                  case r12_hy4 => (refine Or.inl ⟨by rfl, ?_⟩; intro w hSw; (try dsimp only at hSw); first | (go_simp; done) | (go_simp; with_reducible rfl))
                  try simp only [Act.put, List.setIfInBounds_toArray, List.set_cons_zero, List.set_cons_succ]
                  refine wpAnyH_ready (rs := [5]) (by kernel_rfl) (by simp) ?_
                  refine AllReadyH.cons (o := ?r12_o5) ?r12_ho5 (fun K hK => ?_) AllReadyH.nil
                  case r12_ho5 => (conv => lhs; whnf; arg 1; whnf)
                  refine step_call_gu rfl CEK.out _ _ rfl #[.int .i64 0, .int .i64 xp] rfl (CK0.out _) ?_; rintro r wa ⟨rfl, hwa⟩; refine ⟨_, rfl, ?_⟩; have hxa := Ex.trans (Ex.refl _).drew hwa
                  refine hK.out _ _ ?r12_hS5 (fun hHeld5 => ?_)
                  case r12_hS5 => exact FK9.out _ hxa
                  clear hK K hHeld
                  try simp only [Act.put, List.setIfInBounds_toArray, List.set_cons_zero, List.set_cons_succ]
                  refine wpAnyH_ready (rs := [6]) (by kernel_rfl) (by simp) ?_
                  refine AllReadyH.cons (o := ?r12_o6) ?r12_ho6 (fun K hK => ?_) AllReadyH.nil
                  case r12_ho6 => (conv => lhs; whnf; arg 1; whnf)
                  refine step_call_gu rfl CEF.out _ _ rfl #[.agg #[.slice A nb c, .slice (some ⟨b2, o2, none⟩) k d], .agg #[.int .i64 kk.space, .int .i64 kk.page]] rfl (CF0.out _ (HF.out.ex ((HQ.out.trans EW.out).trans hxa))) ?_; rintro r w3 ⟨rfl, he⟩; refine ⟨_, rfl, ?_⟩; have hx3 := Ex.trans hxa he
                  refine hK.out _ _ ?r12_hS6 (fun hHeld6 => ?_)
                  case r12_hS6 => exact FK9.out _ hx3
                  clear hK K hHeld5
                  try simp only [Act.put, List.setIfInBounds_toArray, List.set_cons_zero, List.set_cons_succ]
                  refine wpAnyH_take (i := 7) (oi := ?r12_o7) (v := ?r12_v7) ?r12_ho7 (by kernel_rfl) (by kernel_rfl) (by kernel_rfl) ?r12_hq7 ?r12_hy7 (by assumption) ?_
                  case r12_ho7 => (conv => lhs; whnf; arg 1; whnf)
                  case r12_hq7 => exact fun _ _ _ h => h
                  case r12_hy7 => (refine Or.inl ⟨by rfl, ?_⟩; intro w hSw; (try dsimp only at hSw); first | (go_simp; done) | (go_simp; with_reducible rfl))
                  try simp only [Act.put, List.setIfInBounds_toArray, List.set_cons_zero, List.set_cons_succ]
                  refine wpAnyH_done (by kernel_rfl) ?_ _
                  have HX3 := Lib.hid hx3
                  clear hx3 hxa he hwa
                  go_wp2_with fail
                  have FK10 : Hid (∀ w', Ex w3 w' → (w'.cell? ⟨gl, 3, none⟩ = some (.int .i64 (i : Int)) ∧ w'.cell? ⟨gl, 4, none⟩ = some (.int .i64 xr) ∧ w'.cell? ⟨gm, 1, none⟩ = some (.slice (some ⟨b2, o2, none⟩) k d) ∧ w'.cell? ⟨b2, o2 + i * 5 + 3, none⟩ = some (.int .i64 f.rights))) := Lib.hid (fun w' h => ⟨(K1.out.ex (HX3.out.trans h)).c6.2.2.2.1, (K1.out.ex (HX3.out.trans h)).c6.2.2.2.2.1, (K0.out.ex (HX3.out.trans h)).c9.2.1, (((EW.out.trans HX3.out).trans h).cell HB2.out).trans Z3.out⟩)
                  refine wp_region_held_drew (S := (fun w' => (w'.cell? ⟨gl, 3, none⟩ = some (.int .i64 (i : Int)) ∧ w'.cell? ⟨gl, 4, none⟩ = some (.int .i64 xr) ∧ w'.cell? ⟨gm, 1, none⟩ = some (.slice (some ⟨b2, o2, none⟩) k d) ∧ w'.cell? ⟨b2, o2 + i * 5 + 3, none⟩ = some (.int .i64 f.rights)))) (by kernel_rfl) ?r13_hS0 (fun hHeld => ?_)
                  case r13_hS0 => exact FK10.out _ (Ex.refl _).drew
                  refine wpAnyH_take (i := 0) (oi := ?r13_o0) (v := ?r13_v0) ?r13_ho0 (by kernel_rfl) (by kernel_rfl) (by kernel_rfl) ?r13_hq0 ?r13_hy0 (by assumption) ?_
                  case r13_ho0 => (conv => lhs; whnf; arg 1; whnf)
                  case r13_hq0 => exact fun _ _ _ h => h
                  case r13_hy0 => (refine Or.inl ⟨by rfl, ?_⟩; intro w hSw; (try dsimp only at hSw); first | (go_simp; done) | (go_simp; with_reducible rfl))
                  try simp only [Act.put, List.setIfInBounds_toArray, List.set_cons_zero, List.set_cons_succ]
                  refine wpAnyH_take (i := 1) (oi := ?r13_o1) (v := ?r13_v1) ?r13_ho1 (by kernel_rfl) (by kernel_rfl) (by kernel_rfl) ?r13_hq1 ?r13_hy1 (by assumption) ?_
                  case r13_ho1 => (conv => lhs; whnf; arg 1; whnf)
                  case r13_hq1 => exact fun _ _ _ h => h
                  case r13_hy1 => (refine Or.inl ⟨by rfl, ?_⟩; intro w hSw; (try dsimp only at hSw); first | (go_simp; done) | (go_simp; with_reducible rfl))
                  try simp only [Act.put, List.setIfInBounds_toArray, List.set_cons_zero, List.set_cons_succ]
                  refine wpAnyH_take (i := 2) (oi := ?r13_o2) (v := ?r13_v2) ?r13_ho2 (by kernel_rfl) (by kernel_rfl) (by kernel_rfl) ?r13_hq2 ?r13_hy2 (by assumption) ?_
                  case r13_ho2 => (conv => lhs; whnf; arg 1; whnf)
                  case r13_hq2 => exact fun _ _ _ h => h
                  case r13_hy2 => (refine Or.inl ⟨by rfl, ?_⟩; intro w hSw; (try dsimp only at hSw); first | (go_simp; done) | (go_simp; with_reducible rfl))
                  try simp only [Act.put, List.setIfInBounds_toArray, List.set_cons_zero, List.set_cons_succ]
                  refine wpAnyH_take (i := 3) (oi := ?r13_o3) (v := ?r13_v3) ?r13_ho3 (by kernel_rfl) (by kernel_rfl) (by kernel_rfl) ?r13_hq3 ?r13_hy3 (by assumption) ?_
                  case r13_ho3 => (conv => lhs; whnf; arg 1; whnf)
                  case r13_hq3 => exact fun _ _ _ h => h
                  case r13_hy3 => (refine Or.inl ⟨by rfl, ?_⟩; intro w hSw; (try dsimp only at hSw); first | (go_simp; done) | (go_simp; with_reducible rfl))
                  try simp only [Act.put, List.setIfInBounds_toArray, List.set_cons_zero, List.set_cons_succ]
                  refine wpAnyH_take (i := 4) (oi := ?r13_o4) (v := ?r13_v4) ?r13_ho4 (by kernel_rfl) (by kernel_rfl) (by kernel_rfl) ?r13_hq4 ?r13_hy4 (by assumption) ?_
                  case r13_ho4 => (conv => lhs; whnf; arg 1; whnf)
                  case r13_hq4 => exact fun _ _ _ h => h
                  case r13_hy4 => (refine Or.inl ⟨by rfl, ?_⟩; intro w hSw; (try dsimp only at hSw); first | (go_simp; done) | (go_simp; with_reducible rfl))
                  try simp only [Act.put, List.setIfInBounds_toArray, List.set_cons_zero, List.set_cons_succ]
                  refine wpAnyH_take (i := 5) (oi := ?r13_o5) (v := ?r13_v5) ?r13_ho5 (by kernel_rfl) (by kernel_rfl) (by kernel_rfl) ?r13_hq5 ?r13_hy5 (by assumption) ?_
                  case r13_ho5 => (conv => lhs; whnf; arg 1; whnf)
                  case r13_hq5 => exact fun _ _ _ h => h
                  case r13_hy5 => (refine Or.inl ⟨by rfl, ?_⟩; intro w hSw; (try dsimp only at hSw); first | (go_simp; done) | (go_simp; with_reducible rfl))
                  try simp only [Act.put, List.setIfInBounds_toArray, List.set_cons_zero, List.set_cons_succ]
                  refine wpAnyH_take (i := 6) (oi := ?r13_o6) (v := ?r13_v6) ?r13_ho6 (by kernel_rfl) (by kernel_rfl) (by kernel_rfl) ?r13_hq6 ?r13_hy6 (by assumption) ?_
                  case r13_ho6 => (conv => lhs; whnf; arg 1; whnf)
                  case r13_hq6 => exact fun _ _ _ h => h
                  case r13_hy6 => (refine Or.inl ⟨by rfl, ?_⟩; intro w hSw; (try dsimp only at hSw); first | (go_simp; done) | (go_simp; with_reducible rfl))
                  try simp only [Act.put, List.setIfInBounds_toArray, List.set_cons_zero, List.set_cons_succ]
                  refine wpAnyH_take (i := 7) (oi := ?r13_o7) (v := ?r13_v7) ?r13_ho7 (by kernel_rfl) (by kernel_rfl) (by kernel_rfl) ?r13_hq7 ?r13_hy7 (by assumption) ?_
                  case r13_ho7 => (conv => lhs; whnf; arg 1; whnf)
                  case r13_hq7 => exact fun _ _ _ h => h
                  case r13_hy7 => (refine Or.inl ⟨by rfl, ?_⟩; intro w hSw; (try dsimp only at hSw); first | (go_simp; done) | (go_simp; with_reducible rfl))
                  try simp only [Act.put, List.setIfInBounds_toArray, List.set_cons_zero, List.set_cons_succ]
                  refine wpAnyH_take (i := 8) (oi := ?r13_o8) (v := ?r13_v8) ?r13_ho8 (by kernel_rfl) (by kernel_rfl) (by kernel_rfl) ?r13_hq8 ?r13_hy8 (by assumption) ?_
                  case r13_ho8 => (conv => lhs; whnf; arg 1; whnf)
                  case r13_hq8 => exact fun _ _ _ h => h
                  case r13_hy8 => (refine Or.inl ⟨by rfl, ?_⟩; intro w hSw; (try dsimp only at hSw); first | (go_simp; done) | (go_simp; with_reducible rfl))
                  try simp only [Act.put, List.setIfInBounds_toArray, List.set_cons_zero, List.set_cons_succ]
                  refine wpAnyH_take (i := 9) (oi := ?r13_o9) (v := ?r13_v9) ?r13_ho9 (by kernel_rfl) (by kernel_rfl) (by kernel_rfl) ?r13_hq9 ?r13_hy9 (by assumption) ?_
                  case r13_ho9 => (conv => lhs; whnf; arg 1; whnf)
                  case r13_hq9 => exact fun _ _ _ h => h
                  case r13_hy9 => (refine Or.inl ⟨by rfl, ?_⟩; intro w hSw; (try dsimp only at hSw); first | (go_simp; done) | (go_simp; with_reducible rfl))
                  try simp only [Act.put, List.setIfInBounds_toArray, List.set_cons_zero, List.set_cons_succ]
                  refine wpAnyH_take (i := 10) (oi := ?r13_o10) (v := ?r13_v10) ?r13_ho10 (by kernel_rfl) (by kernel_rfl) (by kernel_rfl) ?r13_hq10 ?r13_hy10 (by assumption) ?_
                  case r13_ho10 => (conv => lhs; whnf; arg 1; whnf)
                  case r13_hq10 => exact fun _ _ _ h => h
                  case r13_hy10 => (refine Or.inl ⟨by rfl, ?_⟩; intro w hSw; (try dsimp only at hSw); first | (go_simp; done) | (go_simp; with_reducible rfl))
                  try simp only [Act.put, List.setIfInBounds_toArray, List.set_cons_zero, List.set_cons_succ]
                  refine wpAnyH_take (i := 11) (oi := ?r13_o11) (v := ?r13_v11) ?r13_ho11 (by kernel_rfl) (by kernel_rfl) (by kernel_rfl) ?r13_hq11 ?r13_hy11 (by assumption) ?_
                  case r13_ho11 => (conv => lhs; whnf; arg 1; whnf)
                  case r13_hq11 => exact fun _ _ _ h => h
                  case r13_hy11 => (refine Or.inl ⟨by rfl, ?_⟩; intro w hSw; (try dsimp only at hSw); first | (go_simp; done) | (go_simp; with_reducible rfl))
                  try simp only [Act.put, List.setIfInBounds_toArray, List.set_cons_zero, List.set_cons_succ]
                  refine wpAnyH_take (i := 12) (oi := ?r13_o12) (v := ?r13_v12) ?r13_ho12 (by kernel_rfl) (by kernel_rfl) (by kernel_rfl) ?r13_hq12 ?r13_hy12 (by assumption) ?_
                  case r13_ho12 => (conv => lhs; whnf; arg 1; whnf)
                  case r13_hq12 => exact fun _ _ _ h => h
                  case r13_hy12 => (refine Or.inl ⟨by rfl, ?_⟩; intro w hSw; (try dsimp only at hSw); first | (go_simp; done) | (go_simp; with_reducible rfl))
                  try simp only [Act.put, List.setIfInBounds_toArray, List.set_cons_zero, List.set_cons_succ]
                  refine wpAnyH_take (i := 13) (oi := ?r13_o13) (v := ?r13_v13) ?r13_ho13 (by kernel_rfl) (by kernel_rfl) (by kernel_rfl) ?r13_hq13 ?r13_hy13 (by assumption) ?_
                  case r13_ho13 => (conv => lhs; whnf; arg 1; whnf)
                  case r13_hq13 => exact fun _ _ _ h => h
                  case r13_hy13 => (refine Or.inl ⟨by rfl, ?_⟩; intro w hSw; (try dsimp only at hSw); first | (go_simp; done) | (go_simp; with_reducible rfl))
                  try simp only [Act.put, List.setIfInBounds_toArray, List.set_cons_zero, List.set_cons_succ]
                  refine wpAnyH_take (i := 14) (oi := ?r13_o14) (v := ?r13_v14) ?r13_ho14 (by kernel_rfl) (by kernel_rfl) (by kernel_rfl) ?r13_hq14 ?r13_hy14 (by assumption) ?_
                  case r13_ho14 => (conv => lhs; whnf; arg 1; whnf)
                  case r13_hq14 => exact fun _ _ _ h => h
                  case r13_hy14 => (refine Or.inl ⟨by rfl, ?_⟩; intro w hSw; (try dsimp only at hSw); first | (go_simp; done) | (go_simp; with_reducible rfl))
                  try simp only [Act.put, List.setIfInBounds_toArray, List.set_cons_zero, List.set_cons_succ]
                  refine wpAnyH_take (i := 15) (oi := ?r13_o15) (v := ?r13_v15) ?r13_ho15 (by kernel_rfl) (by kernel_rfl) (by kernel_rfl) ?r13_hq15 ?r13_hy15 (by assumption) ?_
                  case r13_ho15 => (conv => lhs; whnf; arg 1; whnf)
                  case r13_hq15 => exact fun _ _ _ h => h
                  case r13_hy15 => (refine Or.inl ⟨by rfl, ?_⟩; intro w hSw; (try dsimp only at hSw); first | (go_simp; done) | (go_simp; with_reducible rfl))
                  try simp only [Act.put, List.setIfInBounds_toArray, List.set_cons_zero, List.set_cons_succ]
                  refine wpAnyH_take (i := 16) (oi := ?r13_o16) (v := ?r13_v16) ?r13_ho16 (by kernel_rfl) (by kernel_rfl) (by kernel_rfl) ?r13_hq16 ?r13_hy16 (by assumption) ?_
                  case r13_ho16 => (conv => lhs; whnf; arg 1; whnf)
                  case r13_hq16 => exact fun _ _ _ h => h
                  case r13_hy16 => (refine Or.inl ⟨by rfl, ?_⟩; intro w hSw; (try dsimp only at hSw); first | (go_simp; done) | (go_simp; with_reducible rfl))
                  try simp only [Act.put, List.setIfInBounds_toArray, List.set_cons_zero, List.set_cons_succ]
                  refine wpAnyH_take (i := 17) (oi := ?r13_o17) (v := ?r13_v17) ?r13_ho17 (by kernel_rfl) (by kernel_rfl) (by kernel_rfl) ?r13_hq17 ?r13_hy17 (by assumption) ?_
                  case r13_ho17 => (conv => lhs; whnf; arg 1; whnf)
                  case r13_hq17 => exact fun _ _ _ h => h
                  case r13_hy17 => (refine Or.inl ⟨by rfl, ?_⟩; intro w hSw; (try dsimp only at hSw); first | (go_simp; done) | (go_simp; with_reducible rfl))
                  try simp only [Act.put, List.setIfInBounds_toArray, List.set_cons_zero, List.set_cons_succ]
                  refine wpAnyH_take (i := 18) (oi := ?r13_o18) (v := ?r13_v18) ?r13_ho18 (by kernel_rfl) (by kernel_rfl) (by kernel_rfl) ?r13_hq18 ?r13_hy18 (by assumption) ?_
                  case r13_ho18 => (conv => lhs; whnf; arg 1; whnf)
                  case r13_hq18 => exact fun _ _ _ h => h
                  case r13_hy18 => (refine Or.inl ⟨by rfl, ?_⟩; intro w hSw; (try dsimp only at hSw); first | (go_simp; done) | (go_simp; with_reducible rfl))
                  try simp only [Act.put, List.setIfInBounds_toArray, List.set_cons_zero, List.set_cons_succ]
                  refine wpAnyH_take (i := 19) (oi := ?r13_o19) (v := ?r13_v19) ?r13_ho19 (by kernel_rfl) (by kernel_rfl) (by kernel_rfl) ?r13_hq19 ?r13_hy19 (by assumption) ?_
                  case r13_ho19 => (conv => lhs; whnf; arg 1; whnf)
                  case r13_hq19 => exact fun _ _ _ h => h
                  case r13_hy19 => (refine Or.inl ⟨by rfl, ?_⟩; intro w hSw; (try dsimp only at hSw); first | (go_simp; done) | (go_simp; with_reducible rfl))
                  try simp only [Act.put, List.setIfInBounds_toArray, List.set_cons_zero, List.set_cons_succ]
                  refine wpAnyH_done (by kernel_rfl) ?_ _
                  go_wp2
                  go_ret
                  exact HNO.out _ ((HQ.out.trans EW.out).trans HX3.out).drew HBAD.out
                have HFF := Lib.hid (HNEXT.out (fun _ => HIFF.out.2 ⟨hfr, hr⟩))
                clear HIFF
                subst hfr
                subst hr
                go_wp2_with fail
                obtain ⟨w0, hw0⟩ : ∃ w0 : World, w0 = wr.alloc (.cells #[.bool true, .int .i64 (-1), .int .i64 xp, .int .i64 (i : Int), .int .i64 f.rights, .bool true] 74) := ⟨_, rfl⟩
                obtain ⟨gl, hgl⟩ : ∃ gl : Nat, gl = wr.heap.size := ⟨_, rfl⟩
                have K0 : Hid (Blk w0 gm 46 [.slice A nb c, .slice (some ⟨b2, o2, none⟩) k d, .slice (some ⟨b3, o3, none⟩) nl e, .int .i64 m.cache.hand, .int .i64 m.tags.count, .int .i64 m.tags.next, .int .i64 m.tags.round, .slice O no g, .int .i64 m.space]) := Lib.hid (by rw [hw0]; exact KQ.out.alloc _)
                have K1 : Hid (Blk w0 gl 74 [.bool true, .int .i64 (-1), .int .i64 xp, .int .i64 (i : Int), .int .i64 f.rights, .bool true]) := Lib.hid (by rw [hw0, hgl]; exact Blk.new wr _ _)
                have EW : Hid (Ex wr w0) := Lib.hid (by rw [hw0]; exact (Ex.refl wr).alloc _)
                rw [← hw0]
                rw [← hgl]
                clear hw0 hgl
                clear q0 q1 q2 q3 q4 q5 q6 q7 q8 jM k0 k1 k2 k3 k4 k5
                have FK9 : Hid (∀ w', Ex w0 w' → (w'.cell? ⟨gm, 0, none⟩ = some (.slice A nb c) ∧ w'.cell? ⟨gm, 1, none⟩ = some (.slice (some ⟨b2, o2, none⟩) k d) ∧ w'.cell? ⟨gl, 2, none⟩ = some (.int .i64 xp))) := Lib.hid (fun w' h => ⟨(K0.out.ex h).c9.1, (K0.out.ex h).c9.2.1, (K1.out.ex h).c6.2.2.1⟩)
                refine wp_region_held_drew (S := (fun w' => (w'.cell? ⟨gm, 0, none⟩ = some (.slice A nb c) ∧ w'.cell? ⟨gm, 1, none⟩ = some (.slice (some ⟨b2, o2, none⟩) k d) ∧ w'.cell? ⟨gl, 2, none⟩ = some (.int .i64 xp)))) (by kernel_rfl) ?r14_hS0 (fun hHeld => ?_)
                case r14_hS0 => exact FK9.out _ (Ex.refl _).drew
                refine wpAnyH_take (i := 0) (oi := ?r14_o0) (v := ?r14_v0) ?r14_ho0 (by kernel_rfl) (by kernel_rfl) (by kernel_rfl) ?r14_hq0 ?r14_hy0 (by assumption) ?_
                case r14_ho0 => (conv => lhs; whnf; arg 1; whnf)
                case r14_hq0 => exact fun _ _ _ h => h
                case r14_hy0 => (refine Or.inl ⟨by rfl, ?_⟩; intro w hSw; (try dsimp only at hSw); first | (go_simp; done) | (go_simp; with_reducible rfl))
                try simp only [Act.put, List.setIfInBounds_toArray, List.set_cons_zero, List.set_cons_succ]
                refine wpAnyH_take (i := 1) (oi := ?r14_o1) (v := ?r14_v1) ?r14_ho1 (by kernel_rfl) (by kernel_rfl) (by kernel_rfl) ?r14_hq1 ?r14_hy1 (by assumption) ?_
                case r14_ho1 => (conv => lhs; whnf; arg 1; whnf)
                case r14_hq1 => exact fun _ _ _ h => h
                case r14_hy1 => (refine Or.inl ⟨by rfl, ?_⟩; intro w hSw; (try dsimp only at hSw); first | (go_simp; done) | (go_simp; with_reducible rfl))
                try simp only [Act.put, List.setIfInBounds_toArray, List.set_cons_zero, List.set_cons_succ]
                refine wpAnyH_take (i := 2) (oi := ?r14_o2) (v := ?r14_v2) ?r14_ho2 (by kernel_rfl) (by kernel_rfl) (by kernel_rfl) ?r14_hq2 ?r14_hy2 (by assumption) ?_
                case r14_ho2 => (conv => lhs; whnf; arg 1; whnf)
                case r14_hq2 => exact fun _ _ _ h => h
                case r14_hy2 => (refine Or.inl ⟨by rfl, ?_⟩; intro w hSw; (try dsimp only at hSw); first | (go_simp; done) | (go_simp; with_reducible rfl))
                try simp only [Act.put, List.setIfInBounds_toArray, List.set_cons_zero, List.set_cons_succ]
                refine wpAnyH_take (i := 3) (oi := ?r14_o3) (v := ?r14_v3) ?r14_ho3 (by kernel_rfl) (by kernel_rfl) (by kernel_rfl) ?r14_hq3 ?r14_hy3 (by assumption) ?_
                case r14_ho3 => (conv => lhs; whnf; arg 1; whnf)
                case r14_hq3 => exact fun _ _ _ h => h
                case r14_hy3 => (refine Or.inl ⟨by rfl, ?_⟩; intro w hSw; (try dsimp only at hSw); first | (go_simp; done) | (go_simp; with_reducible rfl))
                try simp only [Act.put, List.setIfInBounds_toArray, List.set_cons_zero, List.set_cons_succ]
                refine wpAnyH_take (i := 4) (oi := ?r14_o4) (v := ?r14_v4) ?r14_ho4 (by kernel_rfl) (by kernel_rfl) (by kernel_rfl) ?r14_hq4 ?r14_hy4 (by assumption) ?_
                case r14_ho4 => (conv => lhs; whnf; arg 1; whnf)
                case r14_hq4 => exact fun _ _ _ h => h
                case r14_hy4 => (refine Or.inl ⟨by rfl, ?_⟩; intro w hSw; (try dsimp only at hSw); first | (go_simp; done) | (go_simp; with_reducible rfl))
                try simp only [Act.put, List.setIfInBounds_toArray, List.set_cons_zero, List.set_cons_succ]
                refine wpAnyH_ready (rs := [5]) (by kernel_rfl) (by simp) ?_
                refine AllReadyH.cons (o := ?r14_o5) ?r14_ho5 (fun K hK => ?_) AllReadyH.nil
                case r14_ho5 => (conv => lhs; whnf; arg 1; whnf)
                refine step_call_gu rfl CEK.out _ _ rfl #[.int .i64 0, .int .i64 xp] rfl (CK0.out _) ?_; rintro r wa ⟨rfl, hwa⟩; refine ⟨_, rfl, ?_⟩; have hxa := Ex.trans (Ex.refl _).drew hwa
                refine hK.out _ _ ?r14_hS5 (fun hHeld5 => ?_)
                case r14_hS5 => exact FK9.out _ hxa
                clear hK K hHeld
                try simp only [Act.put, List.setIfInBounds_toArray, List.set_cons_zero, List.set_cons_succ]
                refine wpAnyH_ready (rs := [6]) (by kernel_rfl) (by simp) ?_
                refine AllReadyH.cons (o := ?r14_o6) ?r14_ho6 (fun K hK => ?_) AllReadyH.nil
                case r14_ho6 => (conv => lhs; whnf; arg 1; whnf)
                refine step_call_gu rfl CEF.out _ _ rfl #[.agg #[.slice A nb c, .slice (some ⟨b2, o2, none⟩) k d], .agg #[.int .i64 kk.space, .int .i64 kk.page]] rfl (CF0.out _ (HF.out.ex ((HQ.out.trans EW.out).trans hxa))) ?_; rintro r w3 ⟨rfl, he⟩; refine ⟨_, rfl, ?_⟩; have hx3 := Ex.trans hxa he
                refine hK.out _ _ ?r14_hS6 (fun hHeld6 => ?_)
                case r14_hS6 => exact FK9.out _ hx3
                clear hK K hHeld5
                try simp only [Act.put, List.setIfInBounds_toArray, List.set_cons_zero, List.set_cons_succ]
                refine wpAnyH_take (i := 7) (oi := ?r14_o7) (v := ?r14_v7) ?r14_ho7 (by kernel_rfl) (by kernel_rfl) (by kernel_rfl) ?r14_hq7 ?r14_hy7 (by assumption) ?_
                case r14_ho7 => (conv => lhs; whnf; arg 1; whnf)
                case r14_hq7 => exact fun _ _ _ h => h
                case r14_hy7 => (refine Or.inl ⟨by rfl, ?_⟩; intro w hSw; (try dsimp only at hSw); first | (go_simp; done) | (go_simp; with_reducible rfl))
                try simp only [Act.put, List.setIfInBounds_toArray, List.set_cons_zero, List.set_cons_succ]
                refine wpAnyH_done (by kernel_rfl) ?_ _
                have HX3 := Lib.hid hx3
                clear hx3 hxa he hwa
                go_wp2_with fail
                have FK10 : Hid (∀ w', Ex w3 w' → (w'.cell? ⟨gl, 3, none⟩ = some (.int .i64 (i : Int)) ∧ w'.cell? ⟨gl, 4, none⟩ = some (.int .i64 f.rights) ∧ w'.cell? ⟨gm, 1, none⟩ = some (.slice (some ⟨b2, o2, none⟩) k d) ∧ w'.cell? ⟨b2, o2 + i * 5 + 3, none⟩ = some (.int .i64 f.rights))) := Lib.hid (fun w' h => ⟨(K1.out.ex (HX3.out.trans h)).c6.2.2.2.1, (K1.out.ex (HX3.out.trans h)).c6.2.2.2.2.1, (K0.out.ex (HX3.out.trans h)).c9.2.1, (((EW.out.trans HX3.out).trans h).cell HB2.out).trans Z3.out⟩)
                refine wp_region_held_drew (S := (fun w' => (w'.cell? ⟨gl, 3, none⟩ = some (.int .i64 (i : Int)) ∧ w'.cell? ⟨gl, 4, none⟩ = some (.int .i64 f.rights) ∧ w'.cell? ⟨gm, 1, none⟩ = some (.slice (some ⟨b2, o2, none⟩) k d) ∧ w'.cell? ⟨b2, o2 + i * 5 + 3, none⟩ = some (.int .i64 f.rights)))) (by kernel_rfl) ?r15_hS0 (fun hHeld => ?_)
                case r15_hS0 => exact FK10.out _ (Ex.refl _).drew
                refine wpAnyH_take (i := 0) (oi := ?r15_o0) (v := ?r15_v0) ?r15_ho0 (by kernel_rfl) (by kernel_rfl) (by kernel_rfl) ?r15_hq0 ?r15_hy0 (by assumption) ?_
                case r15_ho0 => (conv => lhs; whnf; arg 1; whnf)
                case r15_hq0 => exact fun _ _ _ h => h
                case r15_hy0 => (refine Or.inl ⟨by rfl, ?_⟩; intro w hSw; (try dsimp only at hSw); first | (go_simp; done) | (go_simp; with_reducible rfl))
                try simp only [Act.put, List.setIfInBounds_toArray, List.set_cons_zero, List.set_cons_succ]
                refine wpAnyH_take (i := 1) (oi := ?r15_o1) (v := ?r15_v1) ?r15_ho1 (by kernel_rfl) (by kernel_rfl) (by kernel_rfl) ?r15_hq1 ?r15_hy1 (by assumption) ?_
                case r15_ho1 => (conv => lhs; whnf; arg 1; whnf)
                case r15_hq1 => exact fun _ _ _ h => h
                case r15_hy1 => (refine Or.inl ⟨by rfl, ?_⟩; intro w hSw; (try dsimp only at hSw); first | (go_simp; done) | (go_simp; with_reducible rfl))
                try simp only [Act.put, List.setIfInBounds_toArray, List.set_cons_zero, List.set_cons_succ]
                refine wpAnyH_take (i := 2) (oi := ?r15_o2) (v := ?r15_v2) ?r15_ho2 (by kernel_rfl) (by kernel_rfl) (by kernel_rfl) ?r15_hq2 ?r15_hy2 (by assumption) ?_
                case r15_ho2 => (conv => lhs; whnf; arg 1; whnf)
                case r15_hq2 => exact fun _ _ _ h => h
                case r15_hy2 => (refine Or.inl ⟨by rfl, ?_⟩; intro w hSw; (try dsimp only at hSw); first | (go_simp; done) | (go_simp; with_reducible rfl))
                try simp only [Act.put, List.setIfInBounds_toArray, List.set_cons_zero, List.set_cons_succ]
                refine wpAnyH_take (i := 3) (oi := ?r15_o3) (v := ?r15_v3) ?r15_ho3 (by kernel_rfl) (by kernel_rfl) (by kernel_rfl) ?r15_hq3 ?r15_hy3 (by assumption) ?_
                case r15_ho3 => (conv => lhs; whnf; arg 1; whnf)
                case r15_hq3 => exact fun _ _ _ h => h
                case r15_hy3 => (refine Or.inl ⟨by rfl, ?_⟩; intro w hSw; (try dsimp only at hSw); first | (go_simp; done) | (go_simp; with_reducible rfl))
                try simp only [Act.put, List.setIfInBounds_toArray, List.set_cons_zero, List.set_cons_succ]
                refine wpAnyH_take (i := 4) (oi := ?r15_o4) (v := ?r15_v4) ?r15_ho4 (by kernel_rfl) (by kernel_rfl) (by kernel_rfl) ?r15_hq4 ?r15_hy4 (by assumption) ?_
                case r15_ho4 => (conv => lhs; whnf; arg 1; whnf)
                case r15_hq4 => exact fun _ _ _ h => h
                case r15_hy4 => (refine Or.inl ⟨by rfl, ?_⟩; intro w hSw; (try dsimp only at hSw); first | (go_simp; done) | (go_simp; with_reducible rfl))
                try simp only [Act.put, List.setIfInBounds_toArray, List.set_cons_zero, List.set_cons_succ]
                refine wpAnyH_take (i := 5) (oi := ?r15_o5) (v := ?r15_v5) ?r15_ho5 (by kernel_rfl) (by kernel_rfl) (by kernel_rfl) ?r15_hq5 ?r15_hy5 (by assumption) ?_
                case r15_ho5 => (conv => lhs; whnf; arg 1; whnf)
                case r15_hq5 => exact fun _ _ _ h => h
                case r15_hy5 => (refine Or.inl ⟨by rfl, ?_⟩; intro w hSw; (try dsimp only at hSw); first | (go_simp; done) | (go_simp; with_reducible rfl))
                try simp only [Act.put, List.setIfInBounds_toArray, List.set_cons_zero, List.set_cons_succ]
                refine wpAnyH_take (i := 6) (oi := ?r15_o6) (v := ?r15_v6) ?r15_ho6 (by kernel_rfl) (by kernel_rfl) (by kernel_rfl) ?r15_hq6 ?r15_hy6 (by assumption) ?_
                case r15_ho6 => (conv => lhs; whnf; arg 1; whnf)
                case r15_hq6 => exact fun _ _ _ h => h
                case r15_hy6 => (refine Or.inl ⟨by rfl, ?_⟩; intro w hSw; (try dsimp only at hSw); first | (go_simp; done) | (go_simp; with_reducible rfl))
                try simp only [Act.put, List.setIfInBounds_toArray, List.set_cons_zero, List.set_cons_succ]
                refine wpAnyH_take (i := 7) (oi := ?r15_o7) (v := ?r15_v7) ?r15_ho7 (by kernel_rfl) (by kernel_rfl) (by kernel_rfl) ?r15_hq7 ?r15_hy7 (by assumption) ?_
                case r15_ho7 => (conv => lhs; whnf; arg 1; whnf)
                case r15_hq7 => exact fun _ _ _ h => h
                case r15_hy7 => (refine Or.inl ⟨by rfl, ?_⟩; intro w hSw; (try dsimp only at hSw); first | (go_simp; done) | (go_simp; with_reducible rfl))
                try simp only [Act.put, List.setIfInBounds_toArray, List.set_cons_zero, List.set_cons_succ]
                refine wpAnyH_take (i := 8) (oi := ?r15_o8) (v := ?r15_v8) ?r15_ho8 (by kernel_rfl) (by kernel_rfl) (by kernel_rfl) ?r15_hq8 ?r15_hy8 (by assumption) ?_
                case r15_ho8 => (conv => lhs; whnf; arg 1; whnf)
                case r15_hq8 => exact fun _ _ _ h => h
                case r15_hy8 => (refine Or.inl ⟨by rfl, ?_⟩; intro w hSw; (try dsimp only at hSw); first | (go_simp; done) | (go_simp; with_reducible rfl))
                try simp only [Act.put, List.setIfInBounds_toArray, List.set_cons_zero, List.set_cons_succ]
                refine wpAnyH_take (i := 9) (oi := ?r15_o9) (v := ?r15_v9) ?r15_ho9 (by kernel_rfl) (by kernel_rfl) (by kernel_rfl) ?r15_hq9 ?r15_hy9 (by assumption) ?_
                case r15_ho9 => (conv => lhs; whnf; arg 1; whnf)
                case r15_hq9 => exact fun _ _ _ h => h
                case r15_hy9 => (refine Or.inl ⟨by rfl, ?_⟩; intro w hSw; (try dsimp only at hSw); first | (go_simp; done) | (go_simp; with_reducible rfl))
                try simp only [Act.put, List.setIfInBounds_toArray, List.set_cons_zero, List.set_cons_succ]
                refine wpAnyH_take (i := 10) (oi := ?r15_o10) (v := ?r15_v10) ?r15_ho10 (by kernel_rfl) (by kernel_rfl) (by kernel_rfl) ?r15_hq10 ?r15_hy10 (by assumption) ?_
                case r15_ho10 => (conv => lhs; whnf; arg 1; whnf)
                case r15_hq10 => exact fun _ _ _ h => h
                case r15_hy10 => (refine Or.inl ⟨by rfl, ?_⟩; intro w hSw; (try dsimp only at hSw); first | (go_simp; done) | (go_simp; with_reducible rfl))
                try simp only [Act.put, List.setIfInBounds_toArray, List.set_cons_zero, List.set_cons_succ]
                refine wpAnyH_take (i := 11) (oi := ?r15_o11) (v := ?r15_v11) ?r15_ho11 (by kernel_rfl) (by kernel_rfl) (by kernel_rfl) ?r15_hq11 ?r15_hy11 (by assumption) ?_
                case r15_ho11 => (conv => lhs; whnf; arg 1; whnf)
                case r15_hq11 => exact fun _ _ _ h => h
                case r15_hy11 => (refine Or.inl ⟨by rfl, ?_⟩; intro w hSw; (try dsimp only at hSw); first | (go_simp; done) | (go_simp; with_reducible rfl))
                try simp only [Act.put, List.setIfInBounds_toArray, List.set_cons_zero, List.set_cons_succ]
                refine wpAnyH_take (i := 12) (oi := ?r15_o12) (v := ?r15_v12) ?r15_ho12 (by kernel_rfl) (by kernel_rfl) (by kernel_rfl) ?r15_hq12 ?r15_hy12 (by assumption) ?_
                case r15_ho12 => (conv => lhs; whnf; arg 1; whnf)
                case r15_hq12 => exact fun _ _ _ h => h
                case r15_hy12 => (refine Or.inl ⟨by rfl, ?_⟩; intro w hSw; (try dsimp only at hSw); first | (go_simp; done) | (go_simp; with_reducible rfl))
                try simp only [Act.put, List.setIfInBounds_toArray, List.set_cons_zero, List.set_cons_succ]
                refine wpAnyH_take (i := 13) (oi := ?r15_o13) (v := ?r15_v13) ?r15_ho13 (by kernel_rfl) (by kernel_rfl) (by kernel_rfl) ?r15_hq13 ?r15_hy13 (by assumption) ?_
                case r15_ho13 => (conv => lhs; whnf; arg 1; whnf)
                case r15_hq13 => exact fun _ _ _ h => h
                case r15_hy13 => (refine Or.inl ⟨by rfl, ?_⟩; intro w hSw; (try dsimp only at hSw); first | (go_simp; done) | (go_simp; with_reducible rfl))
                try simp only [Act.put, List.setIfInBounds_toArray, List.set_cons_zero, List.set_cons_succ]
                refine wpAnyH_take (i := 14) (oi := ?r15_o14) (v := ?r15_v14) ?r15_ho14 (by kernel_rfl) (by kernel_rfl) (by kernel_rfl) ?r15_hq14 ?r15_hy14 (by assumption) ?_
                case r15_ho14 => (conv => lhs; whnf; arg 1; whnf)
                case r15_hq14 => exact fun _ _ _ h => h
                case r15_hy14 => (refine Or.inl ⟨by rfl, ?_⟩; intro w hSw; (try dsimp only at hSw); first | (go_simp; done) | (go_simp; with_reducible rfl))
                try simp only [Act.put, List.setIfInBounds_toArray, List.set_cons_zero, List.set_cons_succ]
                refine wpAnyH_take (i := 15) (oi := ?r15_o15) (v := ?r15_v15) ?r15_ho15 (by kernel_rfl) (by kernel_rfl) (by kernel_rfl) ?r15_hq15 ?r15_hy15 (by assumption) ?_
                case r15_ho15 => (conv => lhs; whnf; arg 1; whnf)
                case r15_hq15 => exact fun _ _ _ h => h
                case r15_hy15 => (refine Or.inl ⟨by rfl, ?_⟩; intro w hSw; (try dsimp only at hSw); first | (go_simp; done) | (go_simp; with_reducible rfl))
                try simp only [Act.put, List.setIfInBounds_toArray, List.set_cons_zero, List.set_cons_succ]
                refine wpAnyH_take (i := 16) (oi := ?r15_o16) (v := ?r15_v16) ?r15_ho16 (by kernel_rfl) (by kernel_rfl) (by kernel_rfl) ?r15_hq16 ?r15_hy16 (by assumption) ?_
                case r15_ho16 => (conv => lhs; whnf; arg 1; whnf)
                case r15_hq16 => exact fun _ _ _ h => h
                case r15_hy16 => (refine Or.inl ⟨by rfl, ?_⟩; intro w hSw; (try dsimp only at hSw); first | (go_simp; done) | (go_simp; with_reducible rfl))
                try simp only [Act.put, List.setIfInBounds_toArray, List.set_cons_zero, List.set_cons_succ]
                refine wpAnyH_take (i := 17) (oi := ?r15_o17) (v := ?r15_v17) ?r15_ho17 (by kernel_rfl) (by kernel_rfl) (by kernel_rfl) ?r15_hq17 ?r15_hy17 (by assumption) ?_
                case r15_ho17 => (conv => lhs; whnf; arg 1; whnf)
                case r15_hq17 => exact fun _ _ _ h => h
                case r15_hy17 => (refine Or.inl ⟨by rfl, ?_⟩; intro w hSw; (try dsimp only at hSw); first | (go_simp; done) | (go_simp; with_reducible rfl))
                try simp only [Act.put, List.setIfInBounds_toArray, List.set_cons_zero, List.set_cons_succ]
                refine wpAnyH_take (i := 18) (oi := ?r15_o18) (v := ?r15_v18) ?r15_ho18 (by kernel_rfl) (by kernel_rfl) (by kernel_rfl) ?r15_hq18 ?r15_hy18 (by assumption) ?_
                case r15_ho18 => (conv => lhs; whnf; arg 1; whnf)
                case r15_hq18 => exact fun _ _ _ h => h
                case r15_hy18 => (refine Or.inl ⟨by rfl, ?_⟩; intro w hSw; (try dsimp only at hSw); first | (go_simp; done) | (go_simp; with_reducible rfl))
                try simp only [Act.put, List.setIfInBounds_toArray, List.set_cons_zero, List.set_cons_succ]
                refine wpAnyH_take (i := 19) (oi := ?r15_o19) (v := ?r15_v19) ?r15_ho19 (by kernel_rfl) (by kernel_rfl) (by kernel_rfl) ?r15_hq19 ?r15_hy19 (by assumption) ?_
                case r15_ho19 => (conv => lhs; whnf; arg 1; whnf)
                case r15_hq19 => exact fun _ _ _ h => h
                case r15_hy19 => (refine Or.inl ⟨by rfl, ?_⟩; intro w hSw; (try dsimp only at hSw); first | (go_simp; done) | (go_simp; with_reducible rfl))
                try simp only [Act.put, List.setIfInBounds_toArray, List.set_cons_zero, List.set_cons_succ]
                refine wpAnyH_done (by kernel_rfl) ?_ _
                go_wp2
                go_roundw
                case rel => exact ⟨q + 1, by omega, by go_num, ((HQ4.out.trans EW.out).trans HX3.out).drew, HFF.out⟩
                case measure => simp [intOf]; omega
            · have HBAD : Hid (¬ MachOk m) := Lib.hid (fun h => hpg ((h.2.2 q _ HXI.out rfl).1.1 htg))
              subst htg
              cases xw
              all_goals
                go_wp2
                go_ret
                exact HNO.out _ (HQ.out.alloc _) HBAD.out
          · have hb1 : (xt == -1) = false := by simpa using htg
            by_cases hpg : 128 ≤ xp
            · have HBAD : Hid (¬ MachOk m) := Lib.hid (fun h => htg ((h.2.2 q _ HXI.out rfl).1.2 hpg))
              cases xw
              all_goals
                go_wp2
                go_ret
                exact HNO.out _ (HQ.out.alloc _) HBAD.out
            · cases xw
              rotate_left
              · have HBAD : Hid (¬ MachOk m) := Lib.hid (fun h => htg ((h.2.2 q _ HXI.out rfl).2.2.2 rfl))
                go_wp2
                go_ret
                exact HNO.out _ (HQ.out.alloc _) HBAD.out
              cases hso : (spaceOf m.tags xt).2
              · have HBAD : Hid (¬ MachOk m) := Lib.hid (fun h => by have h1 : (spaceOf m.tags xt).2 = true := (h.2.2 q _ HXI.out rfl).2.1 htg; rw [hso] at h1; cases h1)
                go_wp2_with fail
                refine (CT.out xt _ ((HO.out.ex HQ.out).alloc _)).mono ?_
                rw [hso]
                rintro r w0 ⟨rfl, he⟩
                clear hso
                go_wp2
                go_ret
                exact HNO.out _ ((HQ.out.alloc _).trans he) HBAD.out
              · have hq : lineAt m ⟨true, xt, xp, xf, xr, false⟩ = findF m.table (keyFor (spaceOf m.tags xt).1 xp) := by unfold lineAt lineSpace; rw [if_neg htg]
                have HT1 : Hid (xt = -1 ↔ 128 ≤ xp) := Lib.hid (by simp [htg, hpg])
                have HT2 : Hid (xt ≠ -1 → (spaceOf m.tags xt).2 = true) := Lib.hid (fun h => hso)
                have HT3 : Hid (false = true → xt = -1) := Lib.hid (fun h => by cases h)
                have CT := Lib.hid (CT.out xt)
                rw [hso] at CT
                generalize (spaceOf m.tags xt).1 = sp at CT hq
                clear hso
                have CK0 := Lib.hid (fun w' => CK.out sp xp w')
                generalize keyFor sp xp = kk at hq CK0
                have CF0 := Lib.hid (fun w' h => CF.out kk w' h)
                rcases findF_range (t := m.table) kk with hm | ⟨i, f, hm, hfi⟩
                · have HBAD : Hid (¬ MachOk m) := Lib.hid (fun h => by obtain ⟨i, f, h1, _⟩ := (h.2.2 q _ HXI.out rfl).2.2.1; rw [hq, hm] at h1; omega)
                  rw [hm] at CF0
                  clear hq hm
                  go_wp2_with fail
                  refine (CT.out _ ((HO.out.ex HQ.out).alloc _)).mono ?_
                  rintro r w0 ⟨rfl, he⟩
                  obtain ⟨gl, hgl⟩ : ∃ gl : Nat, gl = wr.heap.size := ⟨_, rfl⟩
                  have K0 : Hid (Blk w0 gm 46 [.slice A nb c, .slice B k d, .slice (some ⟨b3, o3, none⟩) nl e, .int .i64 m.cache.hand, .int .i64 m.tags.count, .int .i64 m.tags.next, .int .i64 m.tags.round, .slice O no g, .int .i64 m.space]) := Lib.hid ((KQ.out.alloc _).ex he)
                  have K1 : Hid (Blk w0 gl 74 [.bool true, .int .i64 xt, .int .i64 xp, .int .i64 xf, .int .i64 xr, .bool false]) := Lib.hid (by rw [hgl]; exact (Blk.new wr _ _).ex he)
                  have EW : Hid (Ex wr w0) := Lib.hid (((Ex.refl wr).alloc _).trans he)
                  clear he
                  rw [← hgl]
                  clear hgl q0 q1 q2 q3 q4 q5 q6 q7 q8 jM k0 k1 k2 k3 k4 k5
                  obtain ⟨q0, q1, q2, q3, q4, q5, q6, q7, q8⟩ := K0.out.c9
                  obtain ⟨k0, k1, k2, k3, k4, k5⟩ := K1.out.c6
                  have jM := K0.out.lt
                  have jL := K1.out.lt
                  go_wp2_with fail
                  clear jL
                  clear q0 q1 q2 q3 q4 q5 q6 q7 q8 jM k0 k1 k2 k3 k4 k5
                  have FK9 : Hid (∀ w', Ex w0 w' → (w'.cell? ⟨gm, 0, none⟩ = some (.slice A nb c) ∧ w'.cell? ⟨gm, 1, none⟩ = some (.slice B k d) ∧ w'.cell? ⟨gl, 2, none⟩ = some (.int .i64 xp))) := Lib.hid (fun w' h => ⟨(K0.out.ex h).c9.1, (K0.out.ex h).c9.2.1, (K1.out.ex h).c6.2.2.1⟩)
                  refine wp_region_held_drew (S := (fun w' => (w'.cell? ⟨gm, 0, none⟩ = some (.slice A nb c) ∧ w'.cell? ⟨gm, 1, none⟩ = some (.slice B k d) ∧ w'.cell? ⟨gl, 2, none⟩ = some (.int .i64 xp)))) (by kernel_rfl) ?r16_hS0 (fun hHeld => ?_)
                  case r16_hS0 => exact FK9.out _ (Ex.refl _).drew
                  refine wpAnyH_take (i := 0) (oi := ?r16_o0) (v := ?r16_v0) ?r16_ho0 (by kernel_rfl) (by kernel_rfl) (by kernel_rfl) ?r16_hq0 ?r16_hy0 (by assumption) ?_
                  case r16_ho0 => (conv => lhs; whnf; arg 1; whnf)
                  case r16_hq0 => exact fun _ _ _ h => h
                  case r16_hy0 => (refine Or.inl ⟨by rfl, ?_⟩; intro w hSw; (try dsimp only at hSw); first | (go_simp; done) | (go_simp; with_reducible rfl))
                  try simp only [Act.put, List.setIfInBounds_toArray, List.set_cons_zero, List.set_cons_succ]
                  refine wpAnyH_take (i := 1) (oi := ?r16_o1) (v := ?r16_v1) ?r16_ho1 (by kernel_rfl) (by kernel_rfl) (by kernel_rfl) ?r16_hq1 ?r16_hy1 (by assumption) ?_
                  case r16_ho1 => (conv => lhs; whnf; arg 1; whnf)
                  case r16_hq1 => exact fun _ _ _ h => h
                  case r16_hy1 => (refine Or.inl ⟨by rfl, ?_⟩; intro w hSw; (try dsimp only at hSw); first | (go_simp; done) | (go_simp; with_reducible rfl))
                  try simp only [Act.put, List.setIfInBounds_toArray, List.set_cons_zero, List.set_cons_succ]
                  refine wpAnyH_take (i := 2) (oi := ?r16_o2) (v := ?r16_v2) ?r16_ho2 (by kernel_rfl) (by kernel_rfl) (by kernel_rfl) ?r16_hq2 ?r16_hy2 (by assumption) ?_
                  case r16_ho2 => (conv => lhs; whnf; arg 1; whnf)
                  case r16_hq2 => exact fun _ _ _ h => h
                  case r16_hy2 => (refine Or.inl ⟨by rfl, ?_⟩; intro w hSw; (try dsimp only at hSw); first | (go_simp; done) | (go_simp; with_reducible rfl))
                  try simp only [Act.put, List.setIfInBounds_toArray, List.set_cons_zero, List.set_cons_succ]
                  refine wpAnyH_take (i := 3) (oi := ?r16_o3) (v := ?r16_v3) ?r16_ho3 (by kernel_rfl) (by kernel_rfl) (by kernel_rfl) ?r16_hq3 ?r16_hy3 (by assumption) ?_
                  case r16_ho3 => (conv => lhs; whnf; arg 1; whnf)
                  case r16_hq3 => exact fun _ _ _ h => h
                  case r16_hy3 => (refine Or.inl ⟨by rfl, ?_⟩; intro w hSw; (try dsimp only at hSw); first | (go_simp; done) | (go_simp; with_reducible rfl))
                  try simp only [Act.put, List.setIfInBounds_toArray, List.set_cons_zero, List.set_cons_succ]
                  refine wpAnyH_take (i := 4) (oi := ?r16_o4) (v := ?r16_v4) ?r16_ho4 (by kernel_rfl) (by kernel_rfl) (by kernel_rfl) ?r16_hq4 ?r16_hy4 (by assumption) ?_
                  case r16_ho4 => (conv => lhs; whnf; arg 1; whnf)
                  case r16_hq4 => exact fun _ _ _ h => h
                  case r16_hy4 => (refine Or.inl ⟨by rfl, ?_⟩; intro w hSw; (try dsimp only at hSw); first | (go_simp; done) | (go_simp; with_reducible rfl))
                  try simp only [Act.put, List.setIfInBounds_toArray, List.set_cons_zero, List.set_cons_succ]
                  refine wpAnyH_ready (rs := [5]) (by kernel_rfl) (by simp) ?_
                  refine AllReadyH.cons (o := ?r16_o5) ?r16_ho5 (fun K hK => ?_) AllReadyH.nil
                  case r16_ho5 => (conv => lhs; whnf; arg 1; whnf)
                  refine step_call_gu rfl CEK.out _ _ rfl #[.int .i64 sp, .int .i64 xp] rfl (CK0.out _) ?_; rintro r wa ⟨rfl, hwa⟩; refine ⟨_, rfl, ?_⟩; have hxa := Ex.trans (Ex.refl _).drew hwa
                  refine hK.out _ _ ?r16_hS5 (fun hHeld5 => ?_)
                  case r16_hS5 => exact FK9.out _ hxa
                  clear hK K hHeld
                  try simp only [Act.put, List.setIfInBounds_toArray, List.set_cons_zero, List.set_cons_succ]
                  refine wpAnyH_ready (rs := [6]) (by kernel_rfl) (by simp) ?_
                  refine AllReadyH.cons (o := ?r16_o6) ?r16_ho6 (fun K hK => ?_) AllReadyH.nil
                  case r16_ho6 => (conv => lhs; whnf; arg 1; whnf)
                  refine step_call_gu rfl CEF.out _ _ rfl #[.agg #[.slice A nb c, .slice B k d], .agg #[.int .i64 kk.space, .int .i64 kk.page]] rfl (CF0.out _ (HF.out.ex ((HQ.out.trans EW.out).trans hxa))) ?_; rintro r w3 ⟨rfl, he⟩; refine ⟨_, rfl, ?_⟩; have hx3 := Ex.trans hxa he
                  refine hK.out _ _ ?r16_hS6 (fun hHeld6 => ?_)
                  case r16_hS6 => exact FK9.out _ hx3
                  clear hK K hHeld5
                  try simp only [Act.put, List.setIfInBounds_toArray, List.set_cons_zero, List.set_cons_succ]
                  refine wpAnyH_take (i := 7) (oi := ?r16_o7) (v := ?r16_v7) ?r16_ho7 (by kernel_rfl) (by kernel_rfl) (by kernel_rfl) ?r16_hq7 ?r16_hy7 (by assumption) ?_
                  case r16_ho7 => (conv => lhs; whnf; arg 1; whnf)
                  case r16_hq7 => exact fun _ _ _ h => h
                  case r16_hy7 => (refine Or.inl ⟨by rfl, ?_⟩; intro w hSw; (try dsimp only at hSw); first | (go_simp; done) | (go_simp; with_reducible rfl))
                  try simp only [Act.put, List.setIfInBounds_toArray, List.set_cons_zero, List.set_cons_succ]
                  refine wpAnyH_done (by kernel_rfl) ?_ _
                  have HX3 := Lib.hid hx3
                  clear hx3 hxa he hwa
                  go_wp2_with fail
                  have FK10 : Hid (∀ w', Ex w3 w' → True) := Lib.hid (fun w' h => trivial)
                  refine wp_region_held_drew (S := (fun w' => True)) (by kernel_rfl) ?r17_hS0 (fun hHeld => ?_)
                  case r17_hS0 => exact FK10.out _ (Ex.refl _).drew
                  refine wpAnyH_take (i := 0) (oi := ?r17_o0) (v := ?r17_v0) ?r17_ho0 (by kernel_rfl) (by kernel_rfl) (by kernel_rfl) ?r17_hq0 ?r17_hy0 (by assumption) ?_
                  case r17_ho0 => (conv => lhs; whnf; arg 1; whnf)
                  case r17_hq0 => exact fun _ _ _ h => h
                  case r17_hy0 => (refine Or.inl ⟨by rfl, ?_⟩; intro w hSw; (try dsimp only at hSw); first | (go_simp; done) | (go_simp; with_reducible rfl))
                  try simp only [Act.put, List.setIfInBounds_toArray, List.set_cons_zero, List.set_cons_succ]
                  refine wpAnyH_take (i := 1) (oi := ?r17_o1) (v := ?r17_v1) ?r17_ho1 (by kernel_rfl) (by kernel_rfl) (by kernel_rfl) ?r17_hq1 ?r17_hy1 (by assumption) ?_
                  case r17_ho1 => (conv => lhs; whnf; arg 1; whnf)
                  case r17_hq1 => exact fun _ _ _ h => h
                  case r17_hy1 => (refine Or.inl ⟨by rfl, ?_⟩; intro w hSw; (try dsimp only at hSw); first | (go_simp; done) | (go_simp; with_reducible rfl))
                  try simp only [Act.put, List.setIfInBounds_toArray, List.set_cons_zero, List.set_cons_succ]
                  refine wpAnyH_take (i := 2) (oi := ?r17_o2) (v := ?r17_v2) ?r17_ho2 (by kernel_rfl) (by kernel_rfl) (by kernel_rfl) ?r17_hq2 ?r17_hy2 (by assumption) ?_
                  case r17_ho2 => (conv => lhs; whnf; arg 1; whnf)
                  case r17_hq2 => exact fun _ _ _ h => h
                  case r17_hy2 => (refine Or.inl ⟨by rfl, ?_⟩; intro w hSw; (try dsimp only at hSw); first | (go_simp; done) | (go_simp; with_reducible rfl))
                  try simp only [Act.put, List.setIfInBounds_toArray, List.set_cons_zero, List.set_cons_succ]
                  refine wpAnyH_take (i := 3) (oi := ?r17_o3) (v := undef) ?r17_ho3 (by kernel_rfl) (by kernel_rfl) (by kernel_rfl) ?r17_hq3 ?r17_hy3 (by assumption) ?_
                  case r17_ho3 => (conv => lhs; whnf; arg 1; whnf)
                  case r17_hq3 => exact fun _ _ _ h => h
                  case r17_hy3 => exact Or.inr ⟨by rfl, rfl⟩
                  try simp only [Act.put, List.setIfInBounds_toArray, List.set_cons_zero, List.set_cons_succ]
                  refine wpAnyH_take (i := 4) (oi := ?r17_o4) (v := undef) ?r17_ho4 (by kernel_rfl) (by kernel_rfl) (by kernel_rfl) ?r17_hq4 ?r17_hy4 (by assumption) ?_
                  case r17_ho4 => (conv => lhs; whnf; arg 1; whnf)
                  case r17_hq4 => exact fun _ _ _ h => h
                  case r17_hy4 => exact Or.inr ⟨by rfl, rfl⟩
                  try simp only [Act.put, List.setIfInBounds_toArray, List.set_cons_zero, List.set_cons_succ]
                  refine wpAnyH_take (i := 5) (oi := ?r17_o5) (v := undef) ?r17_ho5 (by kernel_rfl) (by kernel_rfl) (by kernel_rfl) ?r17_hq5 ?r17_hy5 (by assumption) ?_
                  case r17_ho5 => (conv => lhs; whnf; arg 1; whnf)
                  case r17_hq5 => exact fun _ _ _ h => h
                  case r17_hy5 => exact Or.inr ⟨by rfl, rfl⟩
                  try simp only [Act.put, List.setIfInBounds_toArray, List.set_cons_zero, List.set_cons_succ]
                  refine wpAnyH_take (i := 6) (oi := ?r17_o6) (v := undef) ?r17_ho6 (by kernel_rfl) (by kernel_rfl) (by kernel_rfl) ?r17_hq6 ?r17_hy6 (by assumption) ?_
                  case r17_ho6 => (conv => lhs; whnf; arg 1; whnf)
                  case r17_hq6 => exact fun _ _ _ h => h
                  case r17_hy6 => exact Or.inr ⟨by rfl, rfl⟩
                  try simp only [Act.put, List.setIfInBounds_toArray, List.set_cons_zero, List.set_cons_succ]
                  refine wpAnyH_take (i := 7) (oi := ?r17_o7) (v := ?r17_v7) ?r17_ho7 (by kernel_rfl) (by kernel_rfl) (by kernel_rfl) ?r17_hq7 ?r17_hy7 (by assumption) ?_
                  case r17_ho7 => (conv => lhs; whnf; arg 1; whnf)
                  case r17_hq7 => exact fun _ _ _ h => h
                  case r17_hy7 => (refine Or.inl ⟨by rfl, ?_⟩; intro w hSw; (try dsimp only at hSw); first | (go_simp; done) | (go_simp; with_reducible rfl))
                  try simp only [Act.put, List.setIfInBounds_toArray, List.set_cons_zero, List.set_cons_succ]
                  refine wpAnyH_take (i := 8) (oi := ?r17_o8) (v := ?r17_v8) ?r17_ho8 (by kernel_rfl) (by kernel_rfl) (by kernel_rfl) ?r17_hq8 ?r17_hy8 (by assumption) ?_
                  case r17_ho8 => (conv => lhs; whnf; arg 1; whnf)
                  case r17_hq8 => exact fun _ _ _ h => h
                  case r17_hy8 => (refine Or.inl ⟨by rfl, ?_⟩; intro w hSw; (try dsimp only at hSw); first | (go_simp; done) | (go_simp; with_reducible rfl))
                  try simp only [Act.put, List.setIfInBounds_toArray, List.set_cons_zero, List.set_cons_succ]
                  refine wpAnyH_take (i := 9) (oi := ?r17_o9) (v := undef) ?r17_ho9 (by kernel_rfl) (by kernel_rfl) (by kernel_rfl) ?r17_hq9 ?r17_hy9 (by assumption) ?_
                  case r17_ho9 => (conv => lhs; whnf; arg 1; whnf)
                  case r17_hq9 => exact fun _ _ _ h => h
                  case r17_hy9 => exact Or.inr ⟨by rfl, rfl⟩
                  try simp only [Act.put, List.setIfInBounds_toArray, List.set_cons_zero, List.set_cons_succ]
                  refine wpAnyH_take (i := 10) (oi := ?r17_o10) (v := undef) ?r17_ho10 (by kernel_rfl) (by kernel_rfl) (by kernel_rfl) ?r17_hq10 ?r17_hy10 (by assumption) ?_
                  case r17_ho10 => (conv => lhs; whnf; arg 1; whnf)
                  case r17_hq10 => exact fun _ _ _ h => h
                  case r17_hy10 => exact Or.inr ⟨by rfl, rfl⟩
                  try simp only [Act.put, List.setIfInBounds_toArray, List.set_cons_zero, List.set_cons_succ]
                  refine wpAnyH_take (i := 11) (oi := ?r17_o11) (v := undef) ?r17_ho11 (by kernel_rfl) (by kernel_rfl) (by kernel_rfl) ?r17_hq11 ?r17_hy11 (by assumption) ?_
                  case r17_ho11 => (conv => lhs; whnf; arg 1; whnf)
                  case r17_hq11 => exact fun _ _ _ h => h
                  case r17_hy11 => exact Or.inr ⟨by rfl, rfl⟩
                  try simp only [Act.put, List.setIfInBounds_toArray, List.set_cons_zero, List.set_cons_succ]
                  refine wpAnyH_take (i := 12) (oi := ?r17_o12) (v := undef) ?r17_ho12 (by kernel_rfl) (by kernel_rfl) (by kernel_rfl) ?r17_hq12 ?r17_hy12 (by assumption) ?_
                  case r17_ho12 => (conv => lhs; whnf; arg 1; whnf)
                  case r17_hq12 => exact fun _ _ _ h => h
                  case r17_hy12 => exact Or.inr ⟨by rfl, rfl⟩
                  try simp only [Act.put, List.setIfInBounds_toArray, List.set_cons_zero, List.set_cons_succ]
                  refine wpAnyH_take (i := 13) (oi := ?r17_o13) (v := undef) ?r17_ho13 (by kernel_rfl) (by kernel_rfl) (by kernel_rfl) ?r17_hq13 ?r17_hy13 (by assumption) ?_
                  case r17_ho13 => (conv => lhs; whnf; arg 1; whnf)
                  case r17_hq13 => exact fun _ _ _ h => h
                  case r17_hy13 => exact Or.inr ⟨by rfl, rfl⟩
                  try simp only [Act.put, List.setIfInBounds_toArray, List.set_cons_zero, List.set_cons_succ]
                  refine wpAnyH_take (i := 14) (oi := ?r17_o14) (v := undef) ?r17_ho14 (by kernel_rfl) (by kernel_rfl) (by kernel_rfl) ?r17_hq14 ?r17_hy14 (by assumption) ?_
                  case r17_ho14 => (conv => lhs; whnf; arg 1; whnf)
                  case r17_hq14 => exact fun _ _ _ h => h
                  case r17_hy14 => exact Or.inr ⟨by rfl, rfl⟩
                  try simp only [Act.put, List.setIfInBounds_toArray, List.set_cons_zero, List.set_cons_succ]
                  refine wpAnyH_take (i := 15) (oi := ?r17_o15) (v := undef) ?r17_ho15 (by kernel_rfl) (by kernel_rfl) (by kernel_rfl) ?r17_hq15 ?r17_hy15 (by assumption) ?_
                  case r17_ho15 => (conv => lhs; whnf; arg 1; whnf)
                  case r17_hq15 => exact fun _ _ _ h => h
                  case r17_hy15 => exact Or.inr ⟨by rfl, rfl⟩
                  try simp only [Act.put, List.setIfInBounds_toArray, List.set_cons_zero, List.set_cons_succ]
                  refine wpAnyH_take (i := 16) (oi := ?r17_o16) (v := undef) ?r17_ho16 (by kernel_rfl) (by kernel_rfl) (by kernel_rfl) ?r17_hq16 ?r17_hy16 (by assumption) ?_
                  case r17_ho16 => (conv => lhs; whnf; arg 1; whnf)
                  case r17_hq16 => exact fun _ _ _ h => h
                  case r17_hy16 => exact Or.inr ⟨by rfl, rfl⟩
                  try simp only [Act.put, List.setIfInBounds_toArray, List.set_cons_zero, List.set_cons_succ]
                  refine wpAnyH_take (i := 17) (oi := ?r17_o17) (v := undef) ?r17_ho17 (by kernel_rfl) (by kernel_rfl) (by kernel_rfl) ?r17_hq17 ?r17_hy17 (by assumption) ?_
                  case r17_ho17 => (conv => lhs; whnf; arg 1; whnf)
                  case r17_hq17 => exact fun _ _ _ h => h
                  case r17_hy17 => exact Or.inr ⟨by rfl, rfl⟩
                  try simp only [Act.put, List.setIfInBounds_toArray, List.set_cons_zero, List.set_cons_succ]
                  refine wpAnyH_take (i := 18) (oi := ?r17_o18) (v := undef) ?r17_ho18 (by kernel_rfl) (by kernel_rfl) (by kernel_rfl) ?r17_hq18 ?r17_hy18 (by assumption) ?_
                  case r17_ho18 => (conv => lhs; whnf; arg 1; whnf)
                  case r17_hq18 => exact fun _ _ _ h => h
                  case r17_hy18 => exact Or.inr ⟨by rfl, rfl⟩
                  try simp only [Act.put, List.setIfInBounds_toArray, List.set_cons_zero, List.set_cons_succ]
                  refine wpAnyH_take (i := 19) (oi := ?r17_o19) (v := ?r17_v19) ?r17_ho19 (by kernel_rfl) (by kernel_rfl) (by kernel_rfl) ?r17_hq19 ?r17_hy19 (by assumption) ?_
                  case r17_ho19 => (conv => lhs; whnf; arg 1; whnf)
                  case r17_hq19 => exact fun _ _ _ h => h
                  case r17_hy19 => (refine Or.inl ⟨by rfl, ?_⟩; intro w hSw; (try dsimp only at hSw); first | (go_simp; done) | (go_simp; with_reducible rfl))
                  try simp only [Act.put, List.setIfInBounds_toArray, List.set_cons_zero, List.set_cons_succ]
                  refine wpAnyH_done (by kernel_rfl) ?_ _
                  go_wp2
                  go_ret
                  exact HNO.out _ ((HQ.out.trans EW.out).trans HX3.out).drew HBAD.out
                rw [hm] at CF0 hq
                have hin : i < k := by have := getElem?_lt hfi; have := HN.out; omega
                obtain ⟨b2, o2, f', rfl, hb2, hfi', z0, z1, z2, z3, z4⟩ := (HF.out.ex HQ.out).frame (k := i) (getElem?_lt hfi)
                have e : f = f' := by rw [hfi] at hfi'; injection hfi'
                subst e
                have HB2 := Lib.hid hb2
                have Z3 := Lib.hid z3
                have HIFF : Hid (LineFits m ⟨true, xt, xp, xf, xr, false⟩ ↔ (i : Int) = xf ∧ f.rights = xr) := Lib.hid (by
                  constructor
                  · rintro ⟨_, _, ⟨i', f', h1, h2, h3, h4⟩, h5⟩
                    have e : i' = i := by rw [hq] at h1; omega
                    subst e
                    rw [hfi] at h3
                    injection h3 with h3
                    rw [h3]
                    exact ⟨h2, h4⟩
                  · rintro ⟨h1, h2⟩
                    exact ⟨HT1.out, HT2.out, ⟨i, f, hq, h1, hfi, h2⟩, HT3.out⟩)
                clear hb2 z0 z1 z2 z3 z4 hq hm hfi hfi'
                have hi0 : ¬ (i : Int) < 0 := by omega
                by_cases hfr : (i : Int) = xf
                rotate_left
                · have HBAD : Hid (¬ MachOk m) := Lib.hid (fun h => hfr (HIFF.out.1 (h.2.2 q _ HXI.out rfl)).1)
                  have hbb : ((i : Int) == xf) = false := by simpa using hfr
                  have hbn : ((i : Int) != xf) = true := by simpa using hfr
                  have hbm : (!((i : Int) == xf)) = true := by simpa using hfr
                  go_wp2_with fail
                  refine (CT.out _ ((HO.out.ex HQ.out).alloc _)).mono ?_
                  rintro r w0 ⟨rfl, he⟩
                  obtain ⟨gl, hgl⟩ : ∃ gl : Nat, gl = wr.heap.size := ⟨_, rfl⟩
                  have K0 : Hid (Blk w0 gm 46 [.slice A nb c, .slice (some ⟨b2, o2, none⟩) k d, .slice (some ⟨b3, o3, none⟩) nl e, .int .i64 m.cache.hand, .int .i64 m.tags.count, .int .i64 m.tags.next, .int .i64 m.tags.round, .slice O no g, .int .i64 m.space]) := Lib.hid ((KQ.out.alloc _).ex he)
                  have K1 : Hid (Blk w0 gl 74 [.bool true, .int .i64 xt, .int .i64 xp, .int .i64 xf, .int .i64 xr, .bool false]) := Lib.hid (by rw [hgl]; exact (Blk.new wr _ _).ex he)
                  have EW : Hid (Ex wr w0) := Lib.hid (((Ex.refl wr).alloc _).trans he)
                  clear he
                  rw [← hgl]
                  clear hgl q0 q1 q2 q3 q4 q5 q6 q7 q8 jM k0 k1 k2 k3 k4 k5
                  obtain ⟨q0, q1, q2, q3, q4, q5, q6, q7, q8⟩ := K0.out.c9
                  obtain ⟨k0, k1, k2, k3, k4, k5⟩ := K1.out.c6
                  have jM := K0.out.lt
                  have jL := K1.out.lt
                  go_wp2_with fail
                  clear jL
                  clear q0 q1 q2 q3 q4 q5 q6 q7 q8 jM k0 k1 k2 k3 k4 k5
                  have FK9 : Hid (∀ w', Ex w0 w' → (w'.cell? ⟨gm, 0, none⟩ = some (.slice A nb c) ∧ w'.cell? ⟨gm, 1, none⟩ = some (.slice (some ⟨b2, o2, none⟩) k d) ∧ w'.cell? ⟨gl, 2, none⟩ = some (.int .i64 xp))) := Lib.hid (fun w' h => ⟨(K0.out.ex h).c9.1, (K0.out.ex h).c9.2.1, (K1.out.ex h).c6.2.2.1⟩)
                  refine wp_region_held_drew (S := (fun w' => (w'.cell? ⟨gm, 0, none⟩ = some (.slice A nb c) ∧ w'.cell? ⟨gm, 1, none⟩ = some (.slice (some ⟨b2, o2, none⟩) k d) ∧ w'.cell? ⟨gl, 2, none⟩ = some (.int .i64 xp)))) (by kernel_rfl) ?r18_hS0 (fun hHeld => ?_)
                  case r18_hS0 => exact FK9.out _ (Ex.refl _).drew
                  refine wpAnyH_take (i := 0) (oi := ?r18_o0) (v := ?r18_v0) ?r18_ho0 (by kernel_rfl) (by kernel_rfl) (by kernel_rfl) ?r18_hq0 ?r18_hy0 (by assumption) ?_
                  case r18_ho0 => (conv => lhs; whnf; arg 1; whnf)
                  case r18_hq0 => exact fun _ _ _ h => h
                  case r18_hy0 => (refine Or.inl ⟨by rfl, ?_⟩; intro w hSw; (try dsimp only at hSw); first | (go_simp; done) | (go_simp; with_reducible rfl))
                  try simp only [Act.put, List.setIfInBounds_toArray, List.set_cons_zero, List.set_cons_succ]
                  refine wpAnyH_take (i := 1) (oi := ?r18_o1) (v := ?r18_v1) ?r18_ho1 (by kernel_rfl) (by kernel_rfl) (by kernel_rfl) ?r18_hq1 ?r18_hy1 (by assumption) ?_
                  case r18_ho1 => (conv => lhs; whnf; arg 1; whnf)
                  case r18_hq1 => exact fun _ _ _ h => h
                  case r18_hy1 => (refine Or.inl ⟨by rfl, ?_⟩; intro w hSw; (try dsimp only at hSw); first | (go_simp; done) | (go_simp; with_reducible rfl))
                  try simp only [Act.put, List.setIfInBounds_toArray, List.set_cons_zero, List.set_cons_succ]
                  refine wpAnyH_take (i := 2) (oi := ?r18_o2) (v := ?r18_v2) ?r18_ho2 (by kernel_rfl) (by kernel_rfl) (by kernel_rfl) ?r18_hq2 ?r18_hy2 (by assumption) ?_
                  case r18_ho2 => (conv => lhs; whnf; arg 1; whnf)
                  case r18_hq2 => exact fun _ _ _ h => h
                  case r18_hy2 => (refine Or.inl ⟨by rfl, ?_⟩; intro w hSw; (try dsimp only at hSw); first | (go_simp; done) | (go_simp; with_reducible rfl))
                  try simp only [Act.put, List.setIfInBounds_toArray, List.set_cons_zero, List.set_cons_succ]
                  refine wpAnyH_take (i := 3) (oi := ?r18_o3) (v := ?r18_v3) ?r18_ho3 (by kernel_rfl) (by kernel_rfl) (by kernel_rfl) ?r18_hq3 ?r18_hy3 (by assumption) ?_
                  case r18_ho3 => (conv => lhs; whnf; arg 1; whnf)
                  case r18_hq3 => exact fun _ _ _ h => h
                  case r18_hy3 => (refine Or.inl ⟨by rfl, ?_⟩; intro w hSw; (try dsimp only at hSw); first | (go_simp; done) | (go_simp; with_reducible rfl))
                  try simp only [Act.put, List.setIfInBounds_toArray, List.set_cons_zero, List.set_cons_succ]
                  refine wpAnyH_take (i := 4) (oi := ?r18_o4) (v := ?r18_v4) ?r18_ho4 (by kernel_rfl) (by kernel_rfl) (by kernel_rfl) ?r18_hq4 ?r18_hy4 (by assumption) ?_
                  case r18_ho4 => (conv => lhs; whnf; arg 1; whnf)
                  case r18_hq4 => exact fun _ _ _ h => h
                  case r18_hy4 => (refine Or.inl ⟨by rfl, ?_⟩; intro w hSw; (try dsimp only at hSw); first | (go_simp; done) | (go_simp; with_reducible rfl))
                  try simp only [Act.put, List.setIfInBounds_toArray, List.set_cons_zero, List.set_cons_succ]
                  refine wpAnyH_ready (rs := [5]) (by kernel_rfl) (by simp) ?_
                  refine AllReadyH.cons (o := ?r18_o5) ?r18_ho5 (fun K hK => ?_) AllReadyH.nil
                  case r18_ho5 => (conv => lhs; whnf; arg 1; whnf)
                  refine step_call_gu rfl CEK.out _ _ rfl #[.int .i64 sp, .int .i64 xp] rfl (CK0.out _) ?_; rintro r wa ⟨rfl, hwa⟩; refine ⟨_, rfl, ?_⟩; have hxa := Ex.trans (Ex.refl _).drew hwa
                  refine hK.out _ _ ?r18_hS5 (fun hHeld5 => ?_)
                  case r18_hS5 => exact FK9.out _ hxa
                  clear hK K hHeld
                  try simp only [Act.put, List.setIfInBounds_toArray, List.set_cons_zero, List.set_cons_succ]
                  refine wpAnyH_ready (rs := [6]) (by kernel_rfl) (by simp) ?_
                  refine AllReadyH.cons (o := ?r18_o6) ?r18_ho6 (fun K hK => ?_) AllReadyH.nil
                  case r18_ho6 => (conv => lhs; whnf; arg 1; whnf)
                  refine step_call_gu rfl CEF.out _ _ rfl #[.agg #[.slice A nb c, .slice (some ⟨b2, o2, none⟩) k d], .agg #[.int .i64 kk.space, .int .i64 kk.page]] rfl (CF0.out _ (HF.out.ex ((HQ.out.trans EW.out).trans hxa))) ?_; rintro r w3 ⟨rfl, he⟩; refine ⟨_, rfl, ?_⟩; have hx3 := Ex.trans hxa he
                  refine hK.out _ _ ?r18_hS6 (fun hHeld6 => ?_)
                  case r18_hS6 => exact FK9.out _ hx3
                  clear hK K hHeld5
                  try simp only [Act.put, List.setIfInBounds_toArray, List.set_cons_zero, List.set_cons_succ]
                  refine wpAnyH_take (i := 7) (oi := ?r18_o7) (v := ?r18_v7) ?r18_ho7 (by kernel_rfl) (by kernel_rfl) (by kernel_rfl) ?r18_hq7 ?r18_hy7 (by assumption) ?_
                  case r18_ho7 => (conv => lhs; whnf; arg 1; whnf)
                  case r18_hq7 => exact fun _ _ _ h => h
                  case r18_hy7 => (refine Or.inl ⟨by rfl, ?_⟩; intro w hSw; (try dsimp only at hSw); first | (go_simp; done) | (go_simp; with_reducible rfl))
                  try simp only [Act.put, List.setIfInBounds_toArray, List.set_cons_zero, List.set_cons_succ]
                  refine wpAnyH_done (by kernel_rfl) ?_ _
                  have HX3 := Lib.hid hx3
                  clear hx3 hxa he hwa
                  go_wp2_with fail
                  have FK10 : Hid (∀ w', Ex w3 w' → (w'.cell? ⟨gl, 3, none⟩ = some (.int .i64 xf))) := Lib.hid (fun w' h => (K1.out.ex (HX3.out.trans h)).c6.2.2.2.1)
                  refine wp_region_held_drew (S := (fun w' => (w'.cell? ⟨gl, 3, none⟩ = some (.int .i64 xf)))) (by kernel_rfl) ?r19_hS0 (fun hHeld => ?_)
                  case r19_hS0 => exact FK10.out _ (Ex.refl _).drew
                  refine wpAnyH_take (i := 0) (oi := ?r19_o0) (v := ?r19_v0) ?r19_ho0 (by kernel_rfl) (by kernel_rfl) (by kernel_rfl) ?r19_hq0 ?r19_hy0 (by assumption) ?_
                  case r19_ho0 => (conv => lhs; whnf; arg 1; whnf)
                  case r19_hq0 => exact fun _ _ _ h => h
                  case r19_hy0 => (refine Or.inl ⟨by rfl, ?_⟩; intro w hSw; (try dsimp only at hSw); first | (go_simp; done) | (go_simp; with_reducible rfl))
                  try simp only [Act.put, List.setIfInBounds_toArray, List.set_cons_zero, List.set_cons_succ]
                  refine wpAnyH_take (i := 1) (oi := ?r19_o1) (v := ?r19_v1) ?r19_ho1 (by kernel_rfl) (by kernel_rfl) (by kernel_rfl) ?r19_hq1 ?r19_hy1 (by assumption) ?_
                  case r19_ho1 => (conv => lhs; whnf; arg 1; whnf)
                  case r19_hq1 => exact fun _ _ _ h => h
                  case r19_hy1 => (refine Or.inl ⟨by rfl, ?_⟩; intro w hSw; (try dsimp only at hSw); first | (go_simp; done) | (go_simp; with_reducible rfl))
                  try simp only [Act.put, List.setIfInBounds_toArray, List.set_cons_zero, List.set_cons_succ]
                  refine wpAnyH_take (i := 2) (oi := ?r19_o2) (v := ?r19_v2) ?r19_ho2 (by kernel_rfl) (by kernel_rfl) (by kernel_rfl) ?r19_hq2 ?r19_hy2 (by assumption) ?_
                  case r19_ho2 => (conv => lhs; whnf; arg 1; whnf)
                  case r19_hq2 => exact fun _ _ _ h => h
                  case r19_hy2 => (refine Or.inl ⟨by rfl, ?_⟩; intro w hSw; (try dsimp only at hSw); first | (go_simp; done) | (go_simp; with_reducible rfl))
                  try simp only [Act.put, List.setIfInBounds_toArray, List.set_cons_zero, List.set_cons_succ]
                  refine wpAnyH_take (i := 3) (oi := ?r19_o3) (v := ?r19_v3) ?r19_ho3 (by kernel_rfl) (by kernel_rfl) (by kernel_rfl) ?r19_hq3 ?r19_hy3 (by assumption) ?_
                  case r19_ho3 => (conv => lhs; whnf; arg 1; whnf)
                  case r19_hq3 => exact fun _ _ _ h => h
                  case r19_hy3 => (refine Or.inl ⟨by rfl, ?_⟩; intro w hSw; (try dsimp only at hSw); first | (go_simp; done) | (go_simp; with_reducible rfl))
                  try simp only [Act.put, List.setIfInBounds_toArray, List.set_cons_zero, List.set_cons_succ]
                  refine wpAnyH_take (i := 4) (oi := ?r19_o4) (v := ?r19_v4) ?r19_ho4 (by kernel_rfl) (by kernel_rfl) (by kernel_rfl) ?r19_hq4 ?r19_hy4 (by assumption) ?_
                  case r19_ho4 => (conv => lhs; whnf; arg 1; whnf)
                  case r19_hq4 => exact fun _ _ _ h => h
                  case r19_hy4 => (refine Or.inl ⟨by rfl, ?_⟩; intro w hSw; (try dsimp only at hSw); first | (go_simp; done) | (go_simp; with_reducible rfl))
                  try simp only [Act.put, List.setIfInBounds_toArray, List.set_cons_zero, List.set_cons_succ]
                  refine wpAnyH_take (i := 5) (oi := ?r19_o5) (v := ?r19_v5) ?r19_ho5 (by kernel_rfl) (by kernel_rfl) (by kernel_rfl) ?r19_hq5 ?r19_hy5 (by assumption) ?_
                  case r19_ho5 => (conv => lhs; whnf; arg 1; whnf)
                  case r19_hq5 => exact fun _ _ _ h => h
                  case r19_hy5 => (refine Or.inl ⟨by rfl, ?_⟩; intro w hSw; (try dsimp only at hSw); first | (go_simp; done) | (go_simp; with_reducible rfl))
                  try simp only [Act.put, List.setIfInBounds_toArray, List.set_cons_zero, List.set_cons_succ]
                  refine wpAnyH_take (i := 6) (oi := ?r19_o6) (v := ?r19_v6) ?r19_ho6 (by kernel_rfl) (by kernel_rfl) (by kernel_rfl) ?r19_hq6 ?r19_hy6 (by assumption) ?_
                  case r19_ho6 => (conv => lhs; whnf; arg 1; whnf)
                  case r19_hq6 => exact fun _ _ _ h => h
                  case r19_hy6 => (refine Or.inl ⟨by rfl, ?_⟩; intro w hSw; (try dsimp only at hSw); first | (go_simp; done) | (go_simp; with_reducible rfl))
                  try simp only [Act.put, List.setIfInBounds_toArray, List.set_cons_zero, List.set_cons_succ]
                  refine wpAnyH_take (i := 7) (oi := ?r19_o7) (v := ?r19_v7) ?r19_ho7 (by kernel_rfl) (by kernel_rfl) (by kernel_rfl) ?r19_hq7 ?r19_hy7 (by assumption) ?_
                  case r19_ho7 => (conv => lhs; whnf; arg 1; whnf)
                  case r19_hq7 => exact fun _ _ _ h => h
                  case r19_hy7 => (refine Or.inl ⟨by rfl, ?_⟩; intro w hSw; (try dsimp only at hSw); first | (go_simp; done) | (go_simp; with_reducible rfl))
                  try simp only [Act.put, List.setIfInBounds_toArray, List.set_cons_zero, List.set_cons_succ]
                  refine wpAnyH_take (i := 8) (oi := ?r19_o8) (v := ?r19_v8) ?r19_ho8 (by kernel_rfl) (by kernel_rfl) (by kernel_rfl) ?r19_hq8 ?r19_hy8 (by assumption) ?_
                  case r19_ho8 => (conv => lhs; whnf; arg 1; whnf)
                  case r19_hq8 => exact fun _ _ _ h => h
                  case r19_hy8 => (refine Or.inl ⟨by rfl, ?_⟩; intro w hSw; (try dsimp only at hSw); first | (go_simp; done) | (go_simp; with_reducible rfl))
                  try simp only [Act.put, List.setIfInBounds_toArray, List.set_cons_zero, List.set_cons_succ]
                  refine wpAnyH_take (i := 9) (oi := ?r19_o9) (v := undef) ?r19_ho9 (by kernel_rfl) (by kernel_rfl) (by kernel_rfl) ?r19_hq9 ?r19_hy9 (by assumption) ?_
                  case r19_ho9 => (conv => lhs; whnf; arg 1; whnf)
                  case r19_hq9 => exact fun _ _ _ h => h
                  case r19_hy9 => exact Or.inr ⟨by rfl, rfl⟩
                  try simp only [Act.put, List.setIfInBounds_toArray, List.set_cons_zero, List.set_cons_succ]
                  refine wpAnyH_take (i := 10) (oi := ?r19_o10) (v := undef) ?r19_ho10 (by kernel_rfl) (by kernel_rfl) (by kernel_rfl) ?r19_hq10 ?r19_hy10 (by assumption) ?_
                  case r19_ho10 => (conv => lhs; whnf; arg 1; whnf)
                  case r19_hq10 => exact fun _ _ _ h => h
                  case r19_hy10 => exact Or.inr ⟨by rfl, rfl⟩
                  try simp only [Act.put, List.setIfInBounds_toArray, List.set_cons_zero, List.set_cons_succ]
                  refine wpAnyH_take (i := 11) (oi := ?r19_o11) (v := undef) ?r19_ho11 (by kernel_rfl) (by kernel_rfl) (by kernel_rfl) ?r19_hq11 ?r19_hy11 (by assumption) ?_
                  case r19_ho11 => (conv => lhs; whnf; arg 1; whnf)
                  case r19_hq11 => exact fun _ _ _ h => h
                  case r19_hy11 => exact Or.inr ⟨by rfl, rfl⟩
                  try simp only [Act.put, List.setIfInBounds_toArray, List.set_cons_zero, List.set_cons_succ]
                  refine wpAnyH_take (i := 12) (oi := ?r19_o12) (v := undef) ?r19_ho12 (by kernel_rfl) (by kernel_rfl) (by kernel_rfl) ?r19_hq12 ?r19_hy12 (by assumption) ?_
                  case r19_ho12 => (conv => lhs; whnf; arg 1; whnf)
                  case r19_hq12 => exact fun _ _ _ h => h
                  case r19_hy12 => exact Or.inr ⟨by rfl, rfl⟩
                  try simp only [Act.put, List.setIfInBounds_toArray, List.set_cons_zero, List.set_cons_succ]
                  refine wpAnyH_take (i := 13) (oi := ?r19_o13) (v := undef) ?r19_ho13 (by kernel_rfl) (by kernel_rfl) (by kernel_rfl) ?r19_hq13 ?r19_hy13 (by assumption) ?_
                  case r19_ho13 => (conv => lhs; whnf; arg 1; whnf)
                  case r19_hq13 => exact fun _ _ _ h => h
                  case r19_hy13 => exact Or.inr ⟨by rfl, rfl⟩
                  try simp only [Act.put, List.setIfInBounds_toArray, List.set_cons_zero, List.set_cons_succ]
                  refine wpAnyH_take (i := 14) (oi := ?r19_o14) (v := undef) ?r19_ho14 (by kernel_rfl) (by kernel_rfl) (by kernel_rfl) ?r19_hq14 ?r19_hy14 (by assumption) ?_
                  case r19_ho14 => (conv => lhs; whnf; arg 1; whnf)
                  case r19_hq14 => exact fun _ _ _ h => h
                  case r19_hy14 => exact Or.inr ⟨by rfl, rfl⟩
                  try simp only [Act.put, List.setIfInBounds_toArray, List.set_cons_zero, List.set_cons_succ]
                  refine wpAnyH_take (i := 15) (oi := ?r19_o15) (v := undef) ?r19_ho15 (by kernel_rfl) (by kernel_rfl) (by kernel_rfl) ?r19_hq15 ?r19_hy15 (by assumption) ?_
                  case r19_ho15 => (conv => lhs; whnf; arg 1; whnf)
                  case r19_hq15 => exact fun _ _ _ h => h
                  case r19_hy15 => exact Or.inr ⟨by rfl, rfl⟩
                  try simp only [Act.put, List.setIfInBounds_toArray, List.set_cons_zero, List.set_cons_succ]
                  refine wpAnyH_take (i := 16) (oi := ?r19_o16) (v := undef) ?r19_ho16 (by kernel_rfl) (by kernel_rfl) (by kernel_rfl) ?r19_hq16 ?r19_hy16 (by assumption) ?_
                  case r19_ho16 => (conv => lhs; whnf; arg 1; whnf)
                  case r19_hq16 => exact fun _ _ _ h => h
                  case r19_hy16 => exact Or.inr ⟨by rfl, rfl⟩
                  try simp only [Act.put, List.setIfInBounds_toArray, List.set_cons_zero, List.set_cons_succ]
                  refine wpAnyH_take (i := 17) (oi := ?r19_o17) (v := undef) ?r19_ho17 (by kernel_rfl) (by kernel_rfl) (by kernel_rfl) ?r19_hq17 ?r19_hy17 (by assumption) ?_
                  case r19_ho17 => (conv => lhs; whnf; arg 1; whnf)
                  case r19_hq17 => exact fun _ _ _ h => h
                  case r19_hy17 => exact Or.inr ⟨by rfl, rfl⟩
                  try simp only [Act.put, List.setIfInBounds_toArray, List.set_cons_zero, List.set_cons_succ]
                  refine wpAnyH_take (i := 18) (oi := ?r19_o18) (v := undef) ?r19_ho18 (by kernel_rfl) (by kernel_rfl) (by kernel_rfl) ?r19_hq18 ?r19_hy18 (by assumption) ?_
                  case r19_ho18 => (conv => lhs; whnf; arg 1; whnf)
                  case r19_hq18 => exact fun _ _ _ h => h
                  case r19_hy18 => exact Or.inr ⟨by rfl, rfl⟩
                  try simp only [Act.put, List.setIfInBounds_toArray, List.set_cons_zero, List.set_cons_succ]
                  refine wpAnyH_take (i := 19) (oi := ?r19_o19) (v := ?r19_v19) ?r19_ho19 (by kernel_rfl) (by kernel_rfl) (by kernel_rfl) ?r19_hq19 ?r19_hy19 (by assumption) ?_
                  case r19_ho19 => (conv => lhs; whnf; arg 1; whnf)
                  case r19_hq19 => exact fun _ _ _ h => h
                  case r19_hy19 => (refine Or.inl ⟨by rfl, ?_⟩; intro w hSw; (try dsimp only at hSw); first | (go_simp; done) | (go_simp; with_reducible rfl))
                  try simp only [Act.put, List.setIfInBounds_toArray, List.set_cons_zero, List.set_cons_succ]
                  refine wpAnyH_done (by kernel_rfl) ?_ _
                  go_wp2
                  go_ret
                  exact HNO.out _ ((HQ.out.trans EW.out).trans HX3.out).drew HBAD.out
                by_cases hr : f.rights = xr
                rotate_left
                · have HBAD : Hid (¬ MachOk m) := Lib.hid (fun h => hr (HIFF.out.1 (h.2.2 q _ HXI.out rfl)).2)
                  have hbb : (f.rights == xr) = false := by simpa using hr
                  have hbn : (f.rights != xr) = true := by simpa using hr
                  have hbm : (!(f.rights == xr)) = true := by simpa using hr
                  clear HIFF
                  subst hfr
                  go_wp2_with fail
                  refine (CT.out _ ((HO.out.ex HQ.out).alloc _)).mono ?_
                  rintro r w0 ⟨rfl, he⟩
                  obtain ⟨gl, hgl⟩ : ∃ gl : Nat, gl = wr.heap.size := ⟨_, rfl⟩
                  have K0 : Hid (Blk w0 gm 46 [.slice A nb c, .slice (some ⟨b2, o2, none⟩) k d, .slice (some ⟨b3, o3, none⟩) nl e, .int .i64 m.cache.hand, .int .i64 m.tags.count, .int .i64 m.tags.next, .int .i64 m.tags.round, .slice O no g, .int .i64 m.space]) := Lib.hid ((KQ.out.alloc _).ex he)
                  have K1 : Hid (Blk w0 gl 74 [.bool true, .int .i64 xt, .int .i64 xp, .int .i64 (i : Int), .int .i64 xr, .bool false]) := Lib.hid (by rw [hgl]; exact (Blk.new wr _ _).ex he)
                  have EW : Hid (Ex wr w0) := Lib.hid (((Ex.refl wr).alloc _).trans he)
                  clear he
                  rw [← hgl]
                  clear hgl q0 q1 q2 q3 q4 q5 q6 q7 q8 jM k0 k1 k2 k3 k4 k5
                  obtain ⟨q0, q1, q2, q3, q4, q5, q6, q7, q8⟩ := K0.out.c9
                  obtain ⟨k0, k1, k2, k3, k4, k5⟩ := K1.out.c6
                  have jM := K0.out.lt
                  have jL := K1.out.lt
                  go_wp2_with fail
                  clear jL
                  clear q0 q1 q2 q3 q4 q5 q6 q7 q8 jM k0 k1 k2 k3 k4 k5
                  have FK9 : Hid (∀ w', Ex w0 w' → (w'.cell? ⟨gm, 0, none⟩ = some (.slice A nb c) ∧ w'.cell? ⟨gm, 1, none⟩ = some (.slice (some ⟨b2, o2, none⟩) k d) ∧ w'.cell? ⟨gl, 2, none⟩ = some (.int .i64 xp))) := Lib.hid (fun w' h => ⟨(K0.out.ex h).c9.1, (K0.out.ex h).c9.2.1, (K1.out.ex h).c6.2.2.1⟩)
                  refine wp_region_held_drew (S := (fun w' => (w'.cell? ⟨gm, 0, none⟩ = some (.slice A nb c) ∧ w'.cell? ⟨gm, 1, none⟩ = some (.slice (some ⟨b2, o2, none⟩) k d) ∧ w'.cell? ⟨gl, 2, none⟩ = some (.int .i64 xp)))) (by kernel_rfl) ?r20_hS0 (fun hHeld => ?_)
                  case r20_hS0 => exact FK9.out _ (Ex.refl _).drew
                  refine wpAnyH_take (i := 0) (oi := ?r20_o0) (v := ?r20_v0) ?r20_ho0 (by kernel_rfl) (by kernel_rfl) (by kernel_rfl) ?r20_hq0 ?r20_hy0 (by assumption) ?_
                  case r20_ho0 => (conv => lhs; whnf; arg 1; whnf)
                  case r20_hq0 => exact fun _ _ _ h => h
                  case r20_hy0 => (refine Or.inl ⟨by rfl, ?_⟩; intro w hSw; (try dsimp only at hSw); first | (go_simp; done) | (go_simp; with_reducible rfl))
                  try simp only [Act.put, List.setIfInBounds_toArray, List.set_cons_zero, List.set_cons_succ]
                  refine wpAnyH_take (i := 1) (oi := ?r20_o1) (v := ?r20_v1) ?r20_ho1 (by kernel_rfl) (by kernel_rfl) (by kernel_rfl) ?r20_hq1 ?r20_hy1 (by assumption) ?_
                  case r20_ho1 => (conv => lhs; whnf; arg 1; whnf)
                  case r20_hq1 => exact fun _ _ _ h => h
                  case r20_hy1 => (refine Or.inl ⟨by rfl, ?_⟩; intro w hSw; (try dsimp only at hSw); first | (go_simp; done) | (go_simp; with_reducible rfl))
                  try simp only [Act.put, List.setIfInBounds_toArray, List.set_cons_zero, List.set_cons_succ]
                  refine wpAnyH_take (i := 2) (oi := ?r20_o2) (v := ?r20_v2) ?r20_ho2 (by kernel_rfl) (by kernel_rfl) (by kernel_rfl) ?r20_hq2 ?r20_hy2 (by assumption) ?_
                  case r20_ho2 => (conv => lhs; whnf; arg 1; whnf)
                  case r20_hq2 => exact fun _ _ _ h => h
                  case r20_hy2 => (refine Or.inl ⟨by rfl, ?_⟩; intro w hSw; (try dsimp only at hSw); first | (go_simp; done) | (go_simp; with_reducible rfl))
                  try simp only [Act.put, List.setIfInBounds_toArray, List.set_cons_zero, List.set_cons_succ]
                  refine wpAnyH_take (i := 3) (oi := ?r20_o3) (v := ?r20_v3) ?r20_ho3 (by kernel_rfl) (by kernel_rfl) (by kernel_rfl) ?r20_hq3 ?r20_hy3 (by assumption) ?_
                  case r20_ho3 => (conv => lhs; whnf; arg 1; whnf)
                  case r20_hq3 => exact fun _ _ _ h => h
                  case r20_hy3 => (refine Or.inl ⟨by rfl, ?_⟩; intro w hSw; (try dsimp only at hSw); first | (go_simp; done) | (go_simp; with_reducible rfl))
                  try simp only [Act.put, List.setIfInBounds_toArray, List.set_cons_zero, List.set_cons_succ]
                  refine wpAnyH_take (i := 4) (oi := ?r20_o4) (v := ?r20_v4) ?r20_ho4 (by kernel_rfl) (by kernel_rfl) (by kernel_rfl) ?r20_hq4 ?r20_hy4 (by assumption) ?_
                  case r20_ho4 => (conv => lhs; whnf; arg 1; whnf)
                  case r20_hq4 => exact fun _ _ _ h => h
                  case r20_hy4 => (refine Or.inl ⟨by rfl, ?_⟩; intro w hSw; (try dsimp only at hSw); first | (go_simp; done) | (go_simp; with_reducible rfl))
                  try simp only [Act.put, List.setIfInBounds_toArray, List.set_cons_zero, List.set_cons_succ]
                  refine wpAnyH_ready (rs := [5]) (by kernel_rfl) (by simp) ?_
                  refine AllReadyH.cons (o := ?r20_o5) ?r20_ho5 (fun K hK => ?_) AllReadyH.nil
                  case r20_ho5 => (conv => lhs; whnf; arg 1; whnf)
                  refine step_call_gu rfl CEK.out _ _ rfl #[.int .i64 sp, .int .i64 xp] rfl (CK0.out _) ?_; rintro r wa ⟨rfl, hwa⟩; refine ⟨_, rfl, ?_⟩; have hxa := Ex.trans (Ex.refl _).drew hwa
                  refine hK.out _ _ ?r20_hS5 (fun hHeld5 => ?_)
                  case r20_hS5 => exact FK9.out _ hxa
                  clear hK K hHeld
                  try simp only [Act.put, List.setIfInBounds_toArray, List.set_cons_zero, List.set_cons_succ]
                  refine wpAnyH_ready (rs := [6]) (by kernel_rfl) (by simp) ?_
                  refine AllReadyH.cons (o := ?r20_o6) ?r20_ho6 (fun K hK => ?_) AllReadyH.nil
                  case r20_ho6 => (conv => lhs; whnf; arg 1; whnf)
                  refine step_call_gu rfl CEF.out _ _ rfl #[.agg #[.slice A nb c, .slice (some ⟨b2, o2, none⟩) k d], .agg #[.int .i64 kk.space, .int .i64 kk.page]] rfl (CF0.out _ (HF.out.ex ((HQ.out.trans EW.out).trans hxa))) ?_; rintro r w3 ⟨rfl, he⟩; refine ⟨_, rfl, ?_⟩; have hx3 := Ex.trans hxa he
                  refine hK.out _ _ ?r20_hS6 (fun hHeld6 => ?_)
                  case r20_hS6 => exact FK9.out _ hx3
                  clear hK K hHeld5
                  try simp only [Act.put, List.setIfInBounds_toArray, List.set_cons_zero, List.set_cons_succ]
                  refine wpAnyH_take (i := 7) (oi := ?r20_o7) (v := ?r20_v7) ?r20_ho7 (by kernel_rfl) (by kernel_rfl) (by kernel_rfl) ?r20_hq7 ?r20_hy7 (by assumption) ?_
                  case r20_ho7 => (conv => lhs; whnf; arg 1; whnf)
                  case r20_hq7 => exact fun _ _ _ h => h
                  case r20_hy7 => (refine Or.inl ⟨by rfl, ?_⟩; intro w hSw; (try dsimp only at hSw); first | (go_simp; done) | (go_simp; with_reducible rfl))
                  try simp only [Act.put, List.setIfInBounds_toArray, List.set_cons_zero, List.set_cons_succ]
                  refine wpAnyH_done (by kernel_rfl) ?_ _
                  have HX3 := Lib.hid hx3
                  clear hx3 hxa he hwa
                  go_wp2_with fail
                  have FK10 : Hid (∀ w', Ex w3 w' → (w'.cell? ⟨gl, 3, none⟩ = some (.int .i64 (i : Int)) ∧ w'.cell? ⟨gl, 4, none⟩ = some (.int .i64 xr) ∧ w'.cell? ⟨gm, 1, none⟩ = some (.slice (some ⟨b2, o2, none⟩) k d) ∧ w'.cell? ⟨b2, o2 + i * 5 + 3, none⟩ = some (.int .i64 f.rights))) := Lib.hid (fun w' h => ⟨(K1.out.ex (HX3.out.trans h)).c6.2.2.2.1, (K1.out.ex (HX3.out.trans h)).c6.2.2.2.2.1, (K0.out.ex (HX3.out.trans h)).c9.2.1, (((EW.out.trans HX3.out).trans h).cell HB2.out).trans Z3.out⟩)
                  refine wp_region_held_drew (S := (fun w' => (w'.cell? ⟨gl, 3, none⟩ = some (.int .i64 (i : Int)) ∧ w'.cell? ⟨gl, 4, none⟩ = some (.int .i64 xr) ∧ w'.cell? ⟨gm, 1, none⟩ = some (.slice (some ⟨b2, o2, none⟩) k d) ∧ w'.cell? ⟨b2, o2 + i * 5 + 3, none⟩ = some (.int .i64 f.rights)))) (by kernel_rfl) ?r21_hS0 (fun hHeld => ?_)
                  case r21_hS0 => exact FK10.out _ (Ex.refl _).drew
                  refine wpAnyH_take (i := 0) (oi := ?r21_o0) (v := ?r21_v0) ?r21_ho0 (by kernel_rfl) (by kernel_rfl) (by kernel_rfl) ?r21_hq0 ?r21_hy0 (by assumption) ?_
                  case r21_ho0 => (conv => lhs; whnf; arg 1; whnf)
                  case r21_hq0 => exact fun _ _ _ h => h
                  case r21_hy0 => (refine Or.inl ⟨by rfl, ?_⟩; intro w hSw; (try dsimp only at hSw); first | (go_simp; done) | (go_simp; with_reducible rfl))
                  try simp only [Act.put, List.setIfInBounds_toArray, List.set_cons_zero, List.set_cons_succ]
                  refine wpAnyH_take (i := 1) (oi := ?r21_o1) (v := ?r21_v1) ?r21_ho1 (by kernel_rfl) (by kernel_rfl) (by kernel_rfl) ?r21_hq1 ?r21_hy1 (by assumption) ?_
                  case r21_ho1 => (conv => lhs; whnf; arg 1; whnf)
                  case r21_hq1 => exact fun _ _ _ h => h
                  case r21_hy1 => (refine Or.inl ⟨by rfl, ?_⟩; intro w hSw; (try dsimp only at hSw); first | (go_simp; done) | (go_simp; with_reducible rfl))
                  try simp only [Act.put, List.setIfInBounds_toArray, List.set_cons_zero, List.set_cons_succ]
                  refine wpAnyH_take (i := 2) (oi := ?r21_o2) (v := ?r21_v2) ?r21_ho2 (by kernel_rfl) (by kernel_rfl) (by kernel_rfl) ?r21_hq2 ?r21_hy2 (by assumption) ?_
                  case r21_ho2 => (conv => lhs; whnf; arg 1; whnf)
                  case r21_hq2 => exact fun _ _ _ h => h
                  case r21_hy2 => (refine Or.inl ⟨by rfl, ?_⟩; intro w hSw; (try dsimp only at hSw); first | (go_simp; done) | (go_simp; with_reducible rfl))
                  try simp only [Act.put, List.setIfInBounds_toArray, List.set_cons_zero, List.set_cons_succ]
                  refine wpAnyH_take (i := 3) (oi := ?r21_o3) (v := ?r21_v3) ?r21_ho3 (by kernel_rfl) (by kernel_rfl) (by kernel_rfl) ?r21_hq3 ?r21_hy3 (by assumption) ?_
                  case r21_ho3 => (conv => lhs; whnf; arg 1; whnf)
                  case r21_hq3 => exact fun _ _ _ h => h
                  case r21_hy3 => (refine Or.inl ⟨by rfl, ?_⟩; intro w hSw; (try dsimp only at hSw); first | (go_simp; done) | (go_simp; with_reducible rfl))
                  try simp only [Act.put, List.setIfInBounds_toArray, List.set_cons_zero, List.set_cons_succ]
                  refine wpAnyH_take (i := 4) (oi := ?r21_o4) (v := ?r21_v4) ?r21_ho4 (by kernel_rfl) (by kernel_rfl) (by kernel_rfl) ?r21_hq4 ?r21_hy4 (by assumption) ?_
                  case r21_ho4 => (conv => lhs; whnf; arg 1; whnf)
                  case r21_hq4 => exact fun _ _ _ h => h
                  case r21_hy4 => (refine Or.inl ⟨by rfl, ?_⟩; intro w hSw; (try dsimp only at hSw); first | (go_simp; done) | (go_simp; with_reducible rfl))
                  try simp only [Act.put, List.setIfInBounds_toArray, List.set_cons_zero, List.set_cons_succ]
                  refine wpAnyH_take (i := 5) (oi := ?r21_o5) (v := ?r21_v5) ?r21_ho5 (by kernel_rfl) (by kernel_rfl) (by kernel_rfl) ?r21_hq5 ?r21_hy5 (by assumption) ?_
                  case r21_ho5 => (conv => lhs; whnf; arg 1; whnf)
                  case r21_hq5 => exact fun _ _ _ h => h
                  case r21_hy5 => (refine Or.inl ⟨by rfl, ?_⟩; intro w hSw; (try dsimp only at hSw); first | (go_simp; done) | (go_simp; with_reducible rfl))
                  try simp only [Act.put, List.setIfInBounds_toArray, List.set_cons_zero, List.set_cons_succ]
                  refine wpAnyH_take (i := 6) (oi := ?r21_o6) (v := ?r21_v6) ?r21_ho6 (by kernel_rfl) (by kernel_rfl) (by kernel_rfl) ?r21_hq6 ?r21_hy6 (by assumption) ?_
                  case r21_ho6 => (conv => lhs; whnf; arg 1; whnf)
                  case r21_hq6 => exact fun _ _ _ h => h
                  case r21_hy6 => (refine Or.inl ⟨by rfl, ?_⟩; intro w hSw; (try dsimp only at hSw); first | (go_simp; done) | (go_simp; with_reducible rfl))
                  try simp only [Act.put, List.setIfInBounds_toArray, List.set_cons_zero, List.set_cons_succ]
                  refine wpAnyH_take (i := 7) (oi := ?r21_o7) (v := ?r21_v7) ?r21_ho7 (by kernel_rfl) (by kernel_rfl) (by kernel_rfl) ?r21_hq7 ?r21_hy7 (by assumption) ?_
                  case r21_ho7 => (conv => lhs; whnf; arg 1; whnf)
                  case r21_hq7 => exact fun _ _ _ h => h
                  case r21_hy7 => (refine Or.inl ⟨by rfl, ?_⟩; intro w hSw; (try dsimp only at hSw); first | (go_simp; done) | (go_simp; with_reducible rfl))
                  try simp only [Act.put, List.setIfInBounds_toArray, List.set_cons_zero, List.set_cons_succ]
                  refine wpAnyH_take (i := 8) (oi := ?r21_o8) (v := ?r21_v8) ?r21_ho8 (by kernel_rfl) (by kernel_rfl) (by kernel_rfl) ?r21_hq8 ?r21_hy8 (by assumption) ?_
                  case r21_ho8 => (conv => lhs; whnf; arg 1; whnf)
                  case r21_hq8 => exact fun _ _ _ h => h
                  case r21_hy8 => (refine Or.inl ⟨by rfl, ?_⟩; intro w hSw; (try dsimp only at hSw); first | (go_simp; done) | (go_simp; with_reducible rfl))
                  try simp only [Act.put, List.setIfInBounds_toArray, List.set_cons_zero, List.set_cons_succ]
                  refine wpAnyH_take (i := 9) (oi := ?r21_o9) (v := ?r21_v9) ?r21_ho9 (by kernel_rfl) (by kernel_rfl) (by kernel_rfl) ?r21_hq9 ?r21_hy9 (by assumption) ?_
                  case r21_ho9 => (conv => lhs; whnf; arg 1; whnf)
                  case r21_hq9 => exact fun _ _ _ h => h
                  case r21_hy9 => (refine Or.inl ⟨by rfl, ?_⟩; intro w hSw; (try dsimp only at hSw); first | (go_simp; done) | (go_simp; with_reducible rfl))
                  try simp only [Act.put, List.setIfInBounds_toArray, List.set_cons_zero, List.set_cons_succ]
                  refine wpAnyH_take (i := 10) (oi := ?r21_o10) (v := ?r21_v10) ?r21_ho10 (by kernel_rfl) (by kernel_rfl) (by kernel_rfl) ?r21_hq10 ?r21_hy10 (by assumption) ?_
                  case r21_ho10 => (conv => lhs; whnf; arg 1; whnf)
                  case r21_hq10 => exact fun _ _ _ h => h
                  case r21_hy10 => (refine Or.inl ⟨by rfl, ?_⟩; intro w hSw; (try dsimp only at hSw); first | (go_simp; done) | (go_simp; with_reducible rfl))
                  try simp only [Act.put, List.setIfInBounds_toArray, List.set_cons_zero, List.set_cons_succ]
                  refine wpAnyH_take (i := 11) (oi := ?r21_o11) (v := ?r21_v11) ?r21_ho11 (by kernel_rfl) (by kernel_rfl) (by kernel_rfl) ?r21_hq11 ?r21_hy11 (by assumption) ?_
                  case r21_ho11 => (conv => lhs; whnf; arg 1; whnf)
                  case r21_hq11 => exact fun _ _ _ h => h
                  case r21_hy11 => (refine Or.inl ⟨by rfl, ?_⟩; intro w hSw; (try dsimp only at hSw); first | (go_simp; done) | (go_simp; with_reducible rfl))
                  try simp only [Act.put, List.setIfInBounds_toArray, List.set_cons_zero, List.set_cons_succ]
                  refine wpAnyH_take (i := 12) (oi := ?r21_o12) (v := ?r21_v12) ?r21_ho12 (by kernel_rfl) (by kernel_rfl) (by kernel_rfl) ?r21_hq12 ?r21_hy12 (by assumption) ?_
                  case r21_ho12 => (conv => lhs; whnf; arg 1; whnf)
                  case r21_hq12 => exact fun _ _ _ h => h
                  case r21_hy12 => (refine Or.inl ⟨by rfl, ?_⟩; intro w hSw; (try dsimp only at hSw); first | (go_simp; done) | (go_simp; with_reducible rfl))
                  try simp only [Act.put, List.setIfInBounds_toArray, List.set_cons_zero, List.set_cons_succ]
                  refine wpAnyH_take (i := 13) (oi := ?r21_o13) (v := ?r21_v13) ?r21_ho13 (by kernel_rfl) (by kernel_rfl) (by kernel_rfl) ?r21_hq13 ?r21_hy13 (by assumption) ?_
                  case r21_ho13 => (conv => lhs; whnf; arg 1; whnf)
                  case r21_hq13 => exact fun _ _ _ h => h
                  case r21_hy13 => (refine Or.inl ⟨by rfl, ?_⟩; intro w hSw; (try dsimp only at hSw); first | (go_simp; done) | (go_simp; with_reducible rfl))
                  try simp only [Act.put, List.setIfInBounds_toArray, List.set_cons_zero, List.set_cons_succ]
                  refine wpAnyH_take (i := 14) (oi := ?r21_o14) (v := ?r21_v14) ?r21_ho14 (by kernel_rfl) (by kernel_rfl) (by kernel_rfl) ?r21_hq14 ?r21_hy14 (by assumption) ?_
                  case r21_ho14 => (conv => lhs; whnf; arg 1; whnf)
                  case r21_hq14 => exact fun _ _ _ h => h
                  case r21_hy14 => (refine Or.inl ⟨by rfl, ?_⟩; intro w hSw; (try dsimp only at hSw); first | (go_simp; done) | (go_simp; with_reducible rfl))
                  try simp only [Act.put, List.setIfInBounds_toArray, List.set_cons_zero, List.set_cons_succ]
                  refine wpAnyH_take (i := 15) (oi := ?r21_o15) (v := ?r21_v15) ?r21_ho15 (by kernel_rfl) (by kernel_rfl) (by kernel_rfl) ?r21_hq15 ?r21_hy15 (by assumption) ?_
                  case r21_ho15 => (conv => lhs; whnf; arg 1; whnf)
                  case r21_hq15 => exact fun _ _ _ h => h
                  case r21_hy15 => (refine Or.inl ⟨by rfl, ?_⟩; intro w hSw; (try dsimp only at hSw); first | (go_simp; done) | (go_simp; with_reducible rfl))
                  try simp only [Act.put, List.setIfInBounds_toArray, List.set_cons_zero, List.set_cons_succ]
                  refine wpAnyH_take (i := 16) (oi := ?r21_o16) (v := ?r21_v16) ?r21_ho16 (by kernel_rfl) (by kernel_rfl) (by kernel_rfl) ?r21_hq16 ?r21_hy16 (by assumption) ?_
                  case r21_ho16 => (conv => lhs; whnf; arg 1; whnf)
                  case r21_hq16 => exact fun _ _ _ h => h
                  case r21_hy16 => (refine Or.inl ⟨by rfl, ?_⟩; intro w hSw; (try dsimp only at hSw); first | (go_simp; done) | (go_simp; with_reducible rfl))
                  try simp only [Act.put, List.setIfInBounds_toArray, List.set_cons_zero, List.set_cons_succ]
                  refine wpAnyH_take (i := 17) (oi := ?r21_o17) (v := ?r21_v17) ?r21_ho17 (by kernel_rfl) (by kernel_rfl) (by kernel_rfl) ?r21_hq17 ?r21_hy17 (by assumption) ?_
                  case r21_ho17 => (conv => lhs; whnf; arg 1; whnf)
                  case r21_hq17 => exact fun _ _ _ h => h
                  case r21_hy17 => (refine Or.inl ⟨by rfl, ?_⟩; intro w hSw; (try dsimp only at hSw); first | (go_simp; done) | (go_simp; with_reducible rfl))
                  try simp only [Act.put, List.setIfInBounds_toArray, List.set_cons_zero, List.set_cons_succ]
                  refine wpAnyH_take (i := 18) (oi := ?r21_o18) (v := ?r21_v18) ?r21_ho18 (by kernel_rfl) (by kernel_rfl) (by kernel_rfl) ?r21_hq18 ?r21_hy18 (by assumption) ?_
                  case r21_ho18 => (conv => lhs; whnf; arg 1; whnf)
                  case r21_hq18 => exact fun _ _ _ h => h
                  case r21_hy18 => (refine Or.inl ⟨by rfl, ?_⟩; intro w hSw; (try dsimp only at hSw); first | (go_simp; done) | (go_simp; with_reducible rfl))
                  try simp only [Act.put, List.setIfInBounds_toArray, List.set_cons_zero, List.set_cons_succ]
                  refine wpAnyH_take (i := 19) (oi := ?r21_o19) (v := ?r21_v19) ?r21_ho19 (by kernel_rfl) (by kernel_rfl) (by kernel_rfl) ?r21_hq19 ?r21_hy19 (by assumption) ?_
                  case r21_ho19 => (conv => lhs; whnf; arg 1; whnf)
                  case r21_hq19 => exact fun _ _ _ h => h
                  case r21_hy19 => (refine Or.inl ⟨by rfl, ?_⟩; intro w hSw; (try dsimp only at hSw); first | (go_simp; done) | (go_simp; with_reducible rfl))
                  try simp only [Act.put, List.setIfInBounds_toArray, List.set_cons_zero, List.set_cons_succ]
                  refine wpAnyH_done (by kernel_rfl) ?_ _
                  go_wp2
                  go_ret
                  exact HNO.out _ ((HQ.out.trans EW.out).trans HX3.out).drew HBAD.out
                have HFF := Lib.hid (HNEXT.out (fun _ => HIFF.out.2 ⟨hfr, hr⟩))
                clear HIFF
                subst hfr
                subst hr
                go_wp2_with fail
                refine (CT.out _ ((HO.out.ex HQ.out).alloc _)).mono ?_
                rintro r w0 ⟨rfl, he⟩
                obtain ⟨gl, hgl⟩ : ∃ gl : Nat, gl = wr.heap.size := ⟨_, rfl⟩
                have K0 : Hid (Blk w0 gm 46 [.slice A nb c, .slice (some ⟨b2, o2, none⟩) k d, .slice (some ⟨b3, o3, none⟩) nl e, .int .i64 m.cache.hand, .int .i64 m.tags.count, .int .i64 m.tags.next, .int .i64 m.tags.round, .slice O no g, .int .i64 m.space]) := Lib.hid ((KQ.out.alloc _).ex he)
                have K1 : Hid (Blk w0 gl 74 [.bool true, .int .i64 xt, .int .i64 xp, .int .i64 (i : Int), .int .i64 f.rights, .bool false]) := Lib.hid (by rw [hgl]; exact (Blk.new wr _ _).ex he)
                have EW : Hid (Ex wr w0) := Lib.hid (((Ex.refl wr).alloc _).trans he)
                clear he
                rw [← hgl]
                clear hgl q0 q1 q2 q3 q4 q5 q6 q7 q8 jM k0 k1 k2 k3 k4 k5
                obtain ⟨q0, q1, q2, q3, q4, q5, q6, q7, q8⟩ := K0.out.c9
                obtain ⟨k0, k1, k2, k3, k4, k5⟩ := K1.out.c6
                have jM := K0.out.lt
                have jL := K1.out.lt
                go_wp2_with fail
                clear jL
                clear q0 q1 q2 q3 q4 q5 q6 q7 q8 jM k0 k1 k2 k3 k4 k5
                have FK9 : Hid (∀ w', Ex w0 w' → (w'.cell? ⟨gm, 0, none⟩ = some (.slice A nb c) ∧ w'.cell? ⟨gm, 1, none⟩ = some (.slice (some ⟨b2, o2, none⟩) k d) ∧ w'.cell? ⟨gl, 2, none⟩ = some (.int .i64 xp))) := Lib.hid (fun w' h => ⟨(K0.out.ex h).c9.1, (K0.out.ex h).c9.2.1, (K1.out.ex h).c6.2.2.1⟩)
                refine wp_region_held_drew (S := (fun w' => (w'.cell? ⟨gm, 0, none⟩ = some (.slice A nb c) ∧ w'.cell? ⟨gm, 1, none⟩ = some (.slice (some ⟨b2, o2, none⟩) k d) ∧ w'.cell? ⟨gl, 2, none⟩ = some (.int .i64 xp)))) (by kernel_rfl) ?r22_hS0 (fun hHeld => ?_)
                case r22_hS0 => exact FK9.out _ (Ex.refl _).drew
                refine wpAnyH_take (i := 0) (oi := ?r22_o0) (v := ?r22_v0) ?r22_ho0 (by kernel_rfl) (by kernel_rfl) (by kernel_rfl) ?r22_hq0 ?r22_hy0 (by assumption) ?_
                case r22_ho0 => (conv => lhs; whnf; arg 1; whnf)
                case r22_hq0 => exact fun _ _ _ h => h
                case r22_hy0 => (refine Or.inl ⟨by rfl, ?_⟩; intro w hSw; (try dsimp only at hSw); first | (go_simp; done) | (go_simp; with_reducible rfl))
                try simp only [Act.put, List.setIfInBounds_toArray, List.set_cons_zero, List.set_cons_succ]
                refine wpAnyH_take (i := 1) (oi := ?r22_o1) (v := ?r22_v1) ?r22_ho1 (by kernel_rfl) (by kernel_rfl) (by kernel_rfl) ?r22_hq1 ?r22_hy1 (by assumption) ?_
                case r22_ho1 => (conv => lhs; whnf; arg 1; whnf)
                case r22_hq1 => exact fun _ _ _ h => h
                case r22_hy1 => (refine Or.inl ⟨by rfl, ?_⟩; intro w hSw; (try dsimp only at hSw); first | (go_simp; done) | (go_simp; with_reducible rfl))
                try simp only [Act.put, List.setIfInBounds_toArray, List.set_cons_zero, List.set_cons_succ]
                refine wpAnyH_take (i := 2) (oi := ?r22_o2) (v := ?r22_v2) ?r22_ho2 (by kernel_rfl) (by kernel_rfl) (by kernel_rfl) ?r22_hq2 ?r22_hy2 (by assumption) ?_
                case r22_ho2 => (conv => lhs; whnf; arg 1; whnf)
                case r22_hq2 => exact fun _ _ _ h => h
                case r22_hy2 => (refine Or.inl ⟨by rfl, ?_⟩; intro w hSw; (try dsimp only at hSw); first | (go_simp; done) | (go_simp; with_reducible rfl))
                try simp only [Act.put, List.setIfInBounds_toArray, List.set_cons_zero, List.set_cons_succ]
                refine wpAnyH_take (i := 3) (oi := ?r22_o3) (v := ?r22_v3) ?r22_ho3 (by kernel_rfl) (by kernel_rfl) (by kernel_rfl) ?r22_hq3 ?r22_hy3 (by assumption) ?_
                case r22_ho3 => (conv => lhs; whnf; arg 1; whnf)
                case r22_hq3 => exact fun _ _ _ h => h
                case r22_hy3 => (refine Or.inl ⟨by rfl, ?_⟩; intro w hSw; (try dsimp only at hSw); first | (go_simp; done) | (go_simp; with_reducible rfl))
                try simp only [Act.put, List.setIfInBounds_toArray, List.set_cons_zero, List.set_cons_succ]
                refine wpAnyH_take (i := 4) (oi := ?r22_o4) (v := ?r22_v4) ?r22_ho4 (by kernel_rfl) (by kernel_rfl) (by kernel_rfl) ?r22_hq4 ?r22_hy4 (by assumption) ?_
                case r22_ho4 => (conv => lhs; whnf; arg 1; whnf)
                case r22_hq4 => exact fun _ _ _ h => h
                case r22_hy4 => (refine Or.inl ⟨by rfl, ?_⟩; intro w hSw; (try dsimp only at hSw); first | (go_simp; done) | (go_simp; with_reducible rfl))
                try simp only [Act.put, List.setIfInBounds_toArray, List.set_cons_zero, List.set_cons_succ]
                refine wpAnyH_ready (rs := [5]) (by kernel_rfl) (by simp) ?_
                refine AllReadyH.cons (o := ?r22_o5) ?r22_ho5 (fun K hK => ?_) AllReadyH.nil
                case r22_ho5 => (conv => lhs; whnf; arg 1; whnf)
                refine step_call_gu rfl CEK.out _ _ rfl #[.int .i64 sp, .int .i64 xp] rfl (CK0.out _) ?_; rintro r wa ⟨rfl, hwa⟩; refine ⟨_, rfl, ?_⟩; have hxa := Ex.trans (Ex.refl _).drew hwa
                refine hK.out _ _ ?r22_hS5 (fun hHeld5 => ?_)
                case r22_hS5 => exact FK9.out _ hxa
                clear hK K hHeld
                try simp only [Act.put, List.setIfInBounds_toArray, List.set_cons_zero, List.set_cons_succ]
                refine wpAnyH_ready (rs := [6]) (by kernel_rfl) (by simp) ?_
                refine AllReadyH.cons (o := ?r22_o6) ?r22_ho6 (fun K hK => ?_) AllReadyH.nil
                case r22_ho6 => (conv => lhs; whnf; arg 1; whnf)
                refine step_call_gu rfl CEF.out _ _ rfl #[.agg #[.slice A nb c, .slice (some ⟨b2, o2, none⟩) k d], .agg #[.int .i64 kk.space, .int .i64 kk.page]] rfl (CF0.out _ (HF.out.ex ((HQ.out.trans EW.out).trans hxa))) ?_; rintro r w3 ⟨rfl, he⟩; refine ⟨_, rfl, ?_⟩; have hx3 := Ex.trans hxa he
                refine hK.out _ _ ?r22_hS6 (fun hHeld6 => ?_)
                case r22_hS6 => exact FK9.out _ hx3
                clear hK K hHeld5
                try simp only [Act.put, List.setIfInBounds_toArray, List.set_cons_zero, List.set_cons_succ]
                refine wpAnyH_take (i := 7) (oi := ?r22_o7) (v := ?r22_v7) ?r22_ho7 (by kernel_rfl) (by kernel_rfl) (by kernel_rfl) ?r22_hq7 ?r22_hy7 (by assumption) ?_
                case r22_ho7 => (conv => lhs; whnf; arg 1; whnf)
                case r22_hq7 => exact fun _ _ _ h => h
                case r22_hy7 => (refine Or.inl ⟨by rfl, ?_⟩; intro w hSw; (try dsimp only at hSw); first | (go_simp; done) | (go_simp; with_reducible rfl))
                try simp only [Act.put, List.setIfInBounds_toArray, List.set_cons_zero, List.set_cons_succ]
                refine wpAnyH_done (by kernel_rfl) ?_ _
                have HX3 := Lib.hid hx3
                clear hx3 hxa he hwa
                go_wp2_with fail
                have FK10 : Hid (∀ w', Ex w3 w' → (w'.cell? ⟨gl, 3, none⟩ = some (.int .i64 (i : Int)) ∧ w'.cell? ⟨gl, 4, none⟩ = some (.int .i64 f.rights) ∧ w'.cell? ⟨gm, 1, none⟩ = some (.slice (some ⟨b2, o2, none⟩) k d) ∧ w'.cell? ⟨b2, o2 + i * 5 + 3, none⟩ = some (.int .i64 f.rights))) := Lib.hid (fun w' h => ⟨(K1.out.ex (HX3.out.trans h)).c6.2.2.2.1, (K1.out.ex (HX3.out.trans h)).c6.2.2.2.2.1, (K0.out.ex (HX3.out.trans h)).c9.2.1, (((EW.out.trans HX3.out).trans h).cell HB2.out).trans Z3.out⟩)
                refine wp_region_held_drew (S := (fun w' => (w'.cell? ⟨gl, 3, none⟩ = some (.int .i64 (i : Int)) ∧ w'.cell? ⟨gl, 4, none⟩ = some (.int .i64 f.rights) ∧ w'.cell? ⟨gm, 1, none⟩ = some (.slice (some ⟨b2, o2, none⟩) k d) ∧ w'.cell? ⟨b2, o2 + i * 5 + 3, none⟩ = some (.int .i64 f.rights)))) (by kernel_rfl) ?r23_hS0 (fun hHeld => ?_)
                case r23_hS0 => exact FK10.out _ (Ex.refl _).drew
                refine wpAnyH_take (i := 0) (oi := ?r23_o0) (v := ?r23_v0) ?r23_ho0 (by kernel_rfl) (by kernel_rfl) (by kernel_rfl) ?r23_hq0 ?r23_hy0 (by assumption) ?_
                case r23_ho0 => (conv => lhs; whnf; arg 1; whnf)
                case r23_hq0 => exact fun _ _ _ h => h
                case r23_hy0 => (refine Or.inl ⟨by rfl, ?_⟩; intro w hSw; (try dsimp only at hSw); first | (go_simp; done) | (go_simp; with_reducible rfl))
                try simp only [Act.put, List.setIfInBounds_toArray, List.set_cons_zero, List.set_cons_succ]
                refine wpAnyH_take (i := 1) (oi := ?r23_o1) (v := ?r23_v1) ?r23_ho1 (by kernel_rfl) (by kernel_rfl) (by kernel_rfl) ?r23_hq1 ?r23_hy1 (by assumption) ?_
                case r23_ho1 => (conv => lhs; whnf; arg 1; whnf)
                case r23_hq1 => exact fun _ _ _ h => h
                case r23_hy1 => (refine Or.inl ⟨by rfl, ?_⟩; intro w hSw; (try dsimp only at hSw); first | (go_simp; done) | (go_simp; with_reducible rfl))
                try simp only [Act.put, List.setIfInBounds_toArray, List.set_cons_zero, List.set_cons_succ]
                refine wpAnyH_take (i := 2) (oi := ?r23_o2) (v := ?r23_v2) ?r23_ho2 (by kernel_rfl) (by kernel_rfl) (by kernel_rfl) ?r23_hq2 ?r23_hy2 (by assumption) ?_
                case r23_ho2 => (conv => lhs; whnf; arg 1; whnf)
                case r23_hq2 => exact fun _ _ _ h => h
                case r23_hy2 => (refine Or.inl ⟨by rfl, ?_⟩; intro w hSw; (try dsimp only at hSw); first | (go_simp; done) | (go_simp; with_reducible rfl))
                try simp only [Act.put, List.setIfInBounds_toArray, List.set_cons_zero, List.set_cons_succ]
                refine wpAnyH_take (i := 3) (oi := ?r23_o3) (v := ?r23_v3) ?r23_ho3 (by kernel_rfl) (by kernel_rfl) (by kernel_rfl) ?r23_hq3 ?r23_hy3 (by assumption) ?_
                case r23_ho3 => (conv => lhs; whnf; arg 1; whnf)
                case r23_hq3 => exact fun _ _ _ h => h
                case r23_hy3 => (refine Or.inl ⟨by rfl, ?_⟩; intro w hSw; (try dsimp only at hSw); first | (go_simp; done) | (go_simp; with_reducible rfl))
                try simp only [Act.put, List.setIfInBounds_toArray, List.set_cons_zero, List.set_cons_succ]
                refine wpAnyH_take (i := 4) (oi := ?r23_o4) (v := ?r23_v4) ?r23_ho4 (by kernel_rfl) (by kernel_rfl) (by kernel_rfl) ?r23_hq4 ?r23_hy4 (by assumption) ?_
                case r23_ho4 => (conv => lhs; whnf; arg 1; whnf)
                case r23_hq4 => exact fun _ _ _ h => h
                case r23_hy4 => (refine Or.inl ⟨by rfl, ?_⟩; intro w hSw; (try dsimp only at hSw); first | (go_simp; done) | (go_simp; with_reducible rfl))
                try simp only [Act.put, List.setIfInBounds_toArray, List.set_cons_zero, List.set_cons_succ]
                refine wpAnyH_take (i := 5) (oi := ?r23_o5) (v := ?r23_v5) ?r23_ho5 (by kernel_rfl) (by kernel_rfl) (by kernel_rfl) ?r23_hq5 ?r23_hy5 (by assumption) ?_
                case r23_ho5 => (conv => lhs; whnf; arg 1; whnf)
                case r23_hq5 => exact fun _ _ _ h => h
                case r23_hy5 => (refine Or.inl ⟨by rfl, ?_⟩; intro w hSw; (try dsimp only at hSw); first | (go_simp; done) | (go_simp; with_reducible rfl))
                try simp only [Act.put, List.setIfInBounds_toArray, List.set_cons_zero, List.set_cons_succ]
                refine wpAnyH_take (i := 6) (oi := ?r23_o6) (v := ?r23_v6) ?r23_ho6 (by kernel_rfl) (by kernel_rfl) (by kernel_rfl) ?r23_hq6 ?r23_hy6 (by assumption) ?_
                case r23_ho6 => (conv => lhs; whnf; arg 1; whnf)
                case r23_hq6 => exact fun _ _ _ h => h
                case r23_hy6 => (refine Or.inl ⟨by rfl, ?_⟩; intro w hSw; (try dsimp only at hSw); first | (go_simp; done) | (go_simp; with_reducible rfl))
                try simp only [Act.put, List.setIfInBounds_toArray, List.set_cons_zero, List.set_cons_succ]
                refine wpAnyH_take (i := 7) (oi := ?r23_o7) (v := ?r23_v7) ?r23_ho7 (by kernel_rfl) (by kernel_rfl) (by kernel_rfl) ?r23_hq7 ?r23_hy7 (by assumption) ?_
                case r23_ho7 => (conv => lhs; whnf; arg 1; whnf)
                case r23_hq7 => exact fun _ _ _ h => h
                case r23_hy7 => (refine Or.inl ⟨by rfl, ?_⟩; intro w hSw; (try dsimp only at hSw); first | (go_simp; done) | (go_simp; with_reducible rfl))
                try simp only [Act.put, List.setIfInBounds_toArray, List.set_cons_zero, List.set_cons_succ]
                refine wpAnyH_take (i := 8) (oi := ?r23_o8) (v := ?r23_v8) ?r23_ho8 (by kernel_rfl) (by kernel_rfl) (by kernel_rfl) ?r23_hq8 ?r23_hy8 (by assumption) ?_
                case r23_ho8 => (conv => lhs; whnf; arg 1; whnf)
                case r23_hq8 => exact fun _ _ _ h => h
                case r23_hy8 => (refine Or.inl ⟨by rfl, ?_⟩; intro w hSw; (try dsimp only at hSw); first | (go_simp; done) | (go_simp; with_reducible rfl))
                try simp only [Act.put, List.setIfInBounds_toArray, List.set_cons_zero, List.set_cons_succ]
                refine wpAnyH_take (i := 9) (oi := ?r23_o9) (v := ?r23_v9) ?r23_ho9 (by kernel_rfl) (by kernel_rfl) (by kernel_rfl) ?r23_hq9 ?r23_hy9 (by assumption) ?_
                case r23_ho9 => (conv => lhs; whnf; arg 1; whnf)
                case r23_hq9 => exact fun _ _ _ h => h
                case r23_hy9 => (refine Or.inl ⟨by rfl, ?_⟩; intro w hSw; (try dsimp only at hSw); first | (go_simp; done) | (go_simp; with_reducible rfl))
                try simp only [Act.put, List.setIfInBounds_toArray, List.set_cons_zero, List.set_cons_succ]
                refine wpAnyH_take (i := 10) (oi := ?r23_o10) (v := ?r23_v10) ?r23_ho10 (by kernel_rfl) (by kernel_rfl) (by kernel_rfl) ?r23_hq10 ?r23_hy10 (by assumption) ?_
                case r23_ho10 => (conv => lhs; whnf; arg 1; whnf)
                case r23_hq10 => exact fun _ _ _ h => h
                case r23_hy10 => (refine Or.inl ⟨by rfl, ?_⟩; intro w hSw; (try dsimp only at hSw); first | (go_simp; done) | (go_simp; with_reducible rfl))
                try simp only [Act.put, List.setIfInBounds_toArray, List.set_cons_zero, List.set_cons_succ]
                refine wpAnyH_take (i := 11) (oi := ?r23_o11) (v := ?r23_v11) ?r23_ho11 (by kernel_rfl) (by kernel_rfl) (by kernel_rfl) ?r23_hq11 ?r23_hy11 (by assumption) ?_
                case r23_ho11 => (conv => lhs; whnf; arg 1; whnf)
                case r23_hq11 => exact fun _ _ _ h => h
                case r23_hy11 => (refine Or.inl ⟨by rfl, ?_⟩; intro w hSw; (try dsimp only at hSw); first | (go_simp; done) | (go_simp; with_reducible rfl))
                try simp only [Act.put, List.setIfInBounds_toArray, List.set_cons_zero, List.set_cons_succ]
                refine wpAnyH_take (i := 12) (oi := ?r23_o12) (v := ?r23_v12) ?r23_ho12 (by kernel_rfl) (by kernel_rfl) (by kernel_rfl) ?r23_hq12 ?r23_hy12 (by assumption) ?_
                case r23_ho12 => (conv => lhs; whnf; arg 1; whnf)
                case r23_hq12 => exact fun _ _ _ h => h
                case r23_hy12 => (refine Or.inl ⟨by rfl, ?_⟩; intro w hSw; (try dsimp only at hSw); first | (go_simp; done) | (go_simp; with_reducible rfl))
                try simp only [Act.put, List.setIfInBounds_toArray, List.set_cons_zero, List.set_cons_succ]
                refine wpAnyH_take (i := 13) (oi := ?r23_o13) (v := ?r23_v13) ?r23_ho13 (by kernel_rfl) (by kernel_rfl) (by kernel_rfl) ?r23_hq13 ?r23_hy13 (by assumption) ?_
                case r23_ho13 => (conv => lhs; whnf; arg 1; whnf)
                case r23_hq13 => exact fun _ _ _ h => h
                case r23_hy13 => (refine Or.inl ⟨by rfl, ?_⟩; intro w hSw; (try dsimp only at hSw); first | (go_simp; done) | (go_simp; with_reducible rfl))
                try simp only [Act.put, List.setIfInBounds_toArray, List.set_cons_zero, List.set_cons_succ]
                refine wpAnyH_take (i := 14) (oi := ?r23_o14) (v := ?r23_v14) ?r23_ho14 (by kernel_rfl) (by kernel_rfl) (by kernel_rfl) ?r23_hq14 ?r23_hy14 (by assumption) ?_
                case r23_ho14 => (conv => lhs; whnf; arg 1; whnf)
                case r23_hq14 => exact fun _ _ _ h => h
                case r23_hy14 => (refine Or.inl ⟨by rfl, ?_⟩; intro w hSw; (try dsimp only at hSw); first | (go_simp; done) | (go_simp; with_reducible rfl))
                try simp only [Act.put, List.setIfInBounds_toArray, List.set_cons_zero, List.set_cons_succ]
                refine wpAnyH_take (i := 15) (oi := ?r23_o15) (v := ?r23_v15) ?r23_ho15 (by kernel_rfl) (by kernel_rfl) (by kernel_rfl) ?r23_hq15 ?r23_hy15 (by assumption) ?_
                case r23_ho15 => (conv => lhs; whnf; arg 1; whnf)
                case r23_hq15 => exact fun _ _ _ h => h
                case r23_hy15 => (refine Or.inl ⟨by rfl, ?_⟩; intro w hSw; (try dsimp only at hSw); first | (go_simp; done) | (go_simp; with_reducible rfl))
                try simp only [Act.put, List.setIfInBounds_toArray, List.set_cons_zero, List.set_cons_succ]
                refine wpAnyH_take (i := 16) (oi := ?r23_o16) (v := ?r23_v16) ?r23_ho16 (by kernel_rfl) (by kernel_rfl) (by kernel_rfl) ?r23_hq16 ?r23_hy16 (by assumption) ?_
                case r23_ho16 => (conv => lhs; whnf; arg 1; whnf)
                case r23_hq16 => exact fun _ _ _ h => h
                case r23_hy16 => (refine Or.inl ⟨by rfl, ?_⟩; intro w hSw; (try dsimp only at hSw); first | (go_simp; done) | (go_simp; with_reducible rfl))
                try simp only [Act.put, List.setIfInBounds_toArray, List.set_cons_zero, List.set_cons_succ]
                refine wpAnyH_take (i := 17) (oi := ?r23_o17) (v := ?r23_v17) ?r23_ho17 (by kernel_rfl) (by kernel_rfl) (by kernel_rfl) ?r23_hq17 ?r23_hy17 (by assumption) ?_
                case r23_ho17 => (conv => lhs; whnf; arg 1; whnf)
                case r23_hq17 => exact fun _ _ _ h => h
                case r23_hy17 => (refine Or.inl ⟨by rfl, ?_⟩; intro w hSw; (try dsimp only at hSw); first | (go_simp; done) | (go_simp; with_reducible rfl))
                try simp only [Act.put, List.setIfInBounds_toArray, List.set_cons_zero, List.set_cons_succ]
                refine wpAnyH_take (i := 18) (oi := ?r23_o18) (v := ?r23_v18) ?r23_ho18 (by kernel_rfl) (by kernel_rfl) (by kernel_rfl) ?r23_hq18 ?r23_hy18 (by assumption) ?_
                case r23_ho18 => (conv => lhs; whnf; arg 1; whnf)
                case r23_hq18 => exact fun _ _ _ h => h
                case r23_hy18 => (refine Or.inl ⟨by rfl, ?_⟩; intro w hSw; (try dsimp only at hSw); first | (go_simp; done) | (go_simp; with_reducible rfl))
                try simp only [Act.put, List.setIfInBounds_toArray, List.set_cons_zero, List.set_cons_succ]
                refine wpAnyH_take (i := 19) (oi := ?r23_o19) (v := ?r23_v19) ?r23_ho19 (by kernel_rfl) (by kernel_rfl) (by kernel_rfl) ?r23_hq19 ?r23_hy19 (by assumption) ?_
                case r23_ho19 => (conv => lhs; whnf; arg 1; whnf)
                case r23_hq19 => exact fun _ _ _ h => h
                case r23_hy19 => (refine Or.inl ⟨by rfl, ?_⟩; intro w hSw; (try dsimp only at hSw); first | (go_simp; done) | (go_simp; with_reducible rfl))
                try simp only [Act.put, List.setIfInBounds_toArray, List.set_cons_zero, List.set_cons_succ]
                refine wpAnyH_done (by kernel_rfl) ?_ _
                go_wp2
                go_roundw
                case rel => exact ⟨q + 1, by omega, by go_num, ((HQ4.out.trans EW.out).trans HX3.out).drew, HFF.out⟩
                case measure => simp [intOf]; omega
        · obtain rfl : q = nl := by omega
          obtain ⟨q0, q1, q2, q3, q4, q5, q6, q7, q8⟩ := KQ.out.c9
          have jM := KQ.out.lt
          go_wp2
          go_ret
          exact ⟨ret_bool (machV_yes ⟨HOK.out, HFA.out, fun i x h => HALL.out i x (by have := getElem?_lt h; have := HNL.out; omega) h⟩).symm, HQ.out⟩
end Go.Proofs.YtihlaecbdlgbiaaDoor
