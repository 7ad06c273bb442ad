/- When is a machine valid: MachineValid of the reference. -/
import Derived.Test.YtihlaecbdlgbiaaDoorWl
import Derived.Test.YtihlaecbdlgbiaaDoorCx
namespace Go.Proofs.YtihlaecbdlgbiaaDoor
open Go.ChangeShapes Go.WideShapes Go.ChangeAt Go.RowKit
open Rec (sz cs)
set_option linter.unusedVariables false
set_option maxRecDepth 100000

set_option maxHeartbeats 8000000 in
theorem machS_c (m : MachD) (a : MA) (w : World) (hx : HasM w m a) (hf : FewM m) (hc : CapM m a) :
    Calls Tryd.prog 7 #[.agg #[.slice a.b m.table.buckets.length a.bc, .slice a.f m.table.frames.length a.fc, .slice a.l m.cache.lines.length a.lc, .int .i64 m.cache.hand, .int .i64 m.tags.count, .int .i64 m.tags.next, .int .i64 m.tags.round, .slice a.o m.tags.owns.length a.oc, .int .i64 m.space]] w fun r w' => r = .returned (.bool (machV m)) ∧ Ex w w' := by
  obtain ⟨A, c, B, d, L, e, O, g⟩ := a
  have HB : Hid (Rd w A m.table.buckets) := Lib.hid hx.b
  have HF : Hid (Rd w B m.table.frames) := Lib.hid hx.f
  have HL : Hid (Rd w L m.cache.lines) := Lib.hid hx.l
  have HO : Hid (Rd w O m.tags.owns) := Lib.hid hx.o
  skip
  have C1 := Lib.hid (fun w' (h1 : Rd w' A m.table.buckets) (h2 : Rd w' B m.table.frames) => tableS_c m.table A c B d w' h1 h2 hf.b hf.f)
  have C2 := Lib.hid (fun w' (h1 : Rd w' L m.cache.lines) => cacheValidS_c m.cache L e w' h1 hf.l hc.l)
  have C3 := Lib.hid (fun w' (h1 : Rd w' O m.tags.owns) => tagsValidS_c m.tags O g w' h1 hf.o hc.o)
  have C4 := Lib.hid (fun w' (h1 : Rd w' O m.tags.owns) => l5Find_c m.tags m.space O g w' h1 hf.o)
  clear hx
  dsimp only
  cases h1 : tableV m.table
  · rw [machV_no (fun h => by have := tableV_yes h.1.1; rw [h1] at this; cases this)]
    rw [h1] at C1
    generalize m.table.frames.length = n at C1 ⊢
    generalize m.table.buckets.length = nb at C1 ⊢
    generalize m.cache.lines.length = nl at C2 ⊢
    generalize m.tags.owns.length = no at C3 C4 ⊢
    go_enter Tryd.func7, Tryd.ntmps7
    go_wp2_with fail
    have K0 : Hid (Blk (w.alloc (.cells #[.slice A nb c, .slice B n d, .slice L nl e, .int .i64 m.cache.hand, .int .i64 m.tags.count, .int .i64 m.tags.next, .int .i64 m.tags.round, .slice O no g, .int .i64 m.space] 46)) w.heap.size 46 [.slice A nb c, .slice B n d, .slice L nl e, .int .i64 m.cache.hand, .int .i64 m.tags.count, .int .i64 m.tags.next, .int .i64 m.tags.round, .slice O no g, .int .i64 m.space]) := Lib.hid (Blk.new w _ _)
    have E0 : Hid (Ex w (w.alloc (.cells #[.slice A nb c, .slice B n d, .slice L nl e, .int .i64 m.cache.hand, .int .i64 m.tags.count, .int .i64 m.tags.next, .int .i64 m.tags.round, .slice O no g, .int .i64 m.space] 46))) := Lib.hid ((Ex.refl w).alloc _)
    refine (C1.out _ (HB.out.ex E0.out) (HF.out.ex E0.out)).mono ?_
    rintro r w1 ⟨rfl, he1⟩
    have E1 := Lib.hid (E0.out.trans he1)
    have K1 := Lib.hid (K0.out.ex he1)
    clear he1 E0 K0
    obtain ⟨q0, q1, q2, q3, q4, q5, q6, q7, q8⟩ := K1.out.c9
    have jM := K1.out.lt
    go_wp2
    go_ret
    exact ⟨rfl, E1.out⟩
  rw [h1] at C1
  cases h2 : cacheV m.cache
  · rw [machV_no (fun h => by have := h.1.2.1; rw [h2] at this; cases this)]
    rw [h2] at C2
    generalize m.table.frames.length = n at C1 ⊢
    generalize m.table.buckets.length = nb at C1 ⊢
    generalize m.cache.lines.length = nl at C2 ⊢
    generalize m.tags.owns.length = no at C3 C4 ⊢
    go_enter Tryd.func7, Tryd.ntmps7
    go_wp2_with fail
    have K0 : Hid (Blk (w.alloc (.cells #[.slice A nb c, .slice B n d, .slice L nl e, .int .i64 m.cache.hand, .int .i64 m.tags.count, .int .i64 m.tags.next, .int .i64 m.tags.round, .slice O no g, .int .i64 m.space] 46)) w.heap.size 46 [.slice A nb c, .slice B n d, .slice L nl e, .int .i64 m.cache.hand, .int .i64 m.tags.count, .int .i64 m.tags.next, .int .i64 m.tags.round, .slice O no g, .int .i64 m.space]) := Lib.hid (Blk.new w _ _)
    have E0 : Hid (Ex w (w.alloc (.cells #[.slice A nb c, .slice B n d, .slice L nl e, .int .i64 m.cache.hand, .int .i64 m.tags.count, .int .i64 m.tags.next, .int .i64 m.tags.round, .slice O no g, .int .i64 m.space] 46))) := Lib.hid ((Ex.refl w).alloc _)
    refine (C1.out _ (HB.out.ex E0.out) (HF.out.ex E0.out)).mono ?_
    rintro r w1 ⟨rfl, he1⟩
    have E1 := Lib.hid (E0.out.trans he1)
    have K1 := Lib.hid (K0.out.ex he1)
    clear he1 E0 K0
    obtain ⟨q0, q1, q2, q3, q4, q5, q6, q7, q8⟩ := K1.out.c9
    have jM := K1.out.lt
    go_wp2_with fail
    clear q0 q1 q2 q3 q4 q5 q6 q7 q8 jM
    refine (C2.out _ (HL.out.ex E1.out)).mono ?_
    rintro r w2 ⟨rfl, he2⟩
    have E2 := Lib.hid (E1.out.trans he2)
    have K2 := Lib.hid (K1.out.ex he2)
    clear he2 E1 K1
    obtain ⟨q0, q1, q2, q3, q4, q5, q6, q7, q8⟩ := K2.out.c9
    have jM := K2.out.lt
    go_wp2
    go_ret
    exact ⟨rfl, E2.out⟩
  rw [h2] at C2
  cases h3 : tagsV m.tags
  · rw [machV_no (fun h => by have := h.1.2.2.1; rw [h3] at this; cases this)]
    rw [h3] at C3
    generalize m.table.frames.length = n at C1 ⊢
    generalize m.table.buckets.length = nb at C1 ⊢
    generalize m.cache.lines.length = nl at C2 ⊢
    generalize m.tags.owns.length = no at C3 C4 ⊢
    go_enter Tryd.func7, Tryd.ntmps7
    go_wp2_with fail
    have K0 : Hid (Blk (w.alloc (.cells #[.slice A nb c, .slice B n d, .slice L nl e, .int .i64 m.cache.hand, .int .i64 m.tags.count, .int .i64 m.tags.next, .int .i64 m.tags.round, .slice O no g, .int .i64 m.space] 46)) w.heap.size 46 [.slice A nb c, .slice B n d, .slice L nl e, .int .i64 m.cache.hand, .int .i64 m.tags.count, .int .i64 m.tags.next, .int .i64 m.tags.round, .slice O no g, .int .i64 m.space]) := Lib.hid (Blk.new w _ _)
    have E0 : Hid (Ex w (w.alloc (.cells #[.slice A nb c, .slice B n d, .slice L nl e, .int .i64 m.cache.hand, .int .i64 m.tags.count, .int .i64 m.tags.next, .int .i64 m.tags.round, .slice O no g, .int .i64 m.space] 46))) := Lib.hid ((Ex.refl w).alloc _)
    refine (C1.out _ (HB.out.ex E0.out) (HF.out.ex E0.out)).mono ?_
    rintro r w1 ⟨rfl, he1⟩
    have E1 := Lib.hid (E0.out.trans he1)
    have K1 := Lib.hid (K0.out.ex he1)
    clear he1 E0 K0
    obtain ⟨q0, q1, q2, q3, q4, q5, q6, q7, q8⟩ := K1.out.c9
    have jM := K1.out.lt
    go_wp2_with fail
    clear q0 q1 q2 q3 q4 q5 q6 q7 q8 jM
    refine (C2.out _ (HL.out.ex E1.out)).mono ?_
    rintro r w2 ⟨rfl, he2⟩
    have E2 := Lib.hid (E1.out.trans he2)
    have K2 := Lib.hid (K1.out.ex he2)
    clear he2 E1 K1
    obtain ⟨q0, q1, q2, q3, q4, q5, q6, q7, q8⟩ := K2.out.c9
    have jM := K2.out.lt
    go_wp2_with fail
    clear q0 q1 q2 q3 q4 q5 q6 q7 q8 jM
    refine (C3.out _ (HO.out.ex E2.out)).mono ?_
    rintro r w3 ⟨rfl, he3⟩
    have E3 := Lib.hid (E2.out.trans he3)
    have K3 := Lib.hid (K2.out.ex he3)
    clear he3 E2 K2
    obtain ⟨q0, q1, q2, q3, q4, q5, q6, q7, q8⟩ := K3.out.c9
    have jM := K3.out.lt
    go_wp2
    go_ret
    exact ⟨rfl, E3.out⟩
  rw [h3] at C3
  by_cases h4 : ownPlace m.tags.owns m.space < 0
  · rw [machV_no (fun h => by have := h.1.2.2.2; omega)]
    generalize ownPlace m.tags.owns m.space = op at h4 C4
    generalize m.table.frames.length = n at C1 ⊢
    generalize m.table.buckets.length = nb at C1 ⊢
    generalize m.cache.lines.length = nl at C2 ⊢
    generalize m.tags.owns.length = no at C3 C4 ⊢
    go_enter Tryd.func7, Tryd.ntmps7
    go_wp2_with fail
    have K0 : Hid (Blk (w.alloc (.cells #[.slice A nb c, .slice B n d, .slice L nl e, .int .i64 m.cache.hand, .int .i64 m.tags.count, .int .i64 m.tags.next, .int .i64 m.tags.round, .slice O no g, .int .i64 m.space] 46)) w.heap.size 46 [.slice A nb c, .slice B n d, .slice L nl e, .int .i64 m.cache.hand, .int .i64 m.tags.count, .int .i64 m.tags.next, .int .i64 m.tags.round, .slice O no g, .int .i64 m.space]) := Lib.hid (Blk.new w _ _)
    have E0 : Hid (Ex w (w.alloc (.cells #[.slice A nb c, .slice B n d, .slice L nl e, .int .i64 m.cache.hand, .int .i64 m.tags.count, .int .i64 m.tags.next, .int .i64 m.tags.round, .slice O no g, .int .i64 m.space] 46))) := Lib.hid ((Ex.refl w).alloc _)
    refine (C1.out _ (HB.out.ex E0.out) (HF.out.ex E0.out)).mono ?_
    rintro r w1 ⟨rfl, he1⟩
    have E1 := Lib.hid (E0.out.trans he1)
    have K1 := Lib.hid (K0.out.ex he1)
    clear he1 E0 K0
    obtain ⟨q0, q1, q2, q3, q4, q5, q6, q7, q8⟩ := K1.out.c9
    have jM := K1.out.lt
    go_wp2_with fail
    clear q0 q1 q2 q3 q4 q5 q6 q7 q8 jM
    refine (C2.out _ (HL.out.ex E1.out)).mono ?_
    rintro r w2 ⟨rfl, he2⟩
    have E2 := Lib.hid (E1.out.trans he2)
    have K2 := Lib.hid (K1.out.ex he2)
    clear he2 E1 K1
    obtain ⟨q0, q1, q2, q3, q4, q5, q6, q7, q8⟩ := K2.out.c9
    have jM := K2.out.lt
    go_wp2_with fail
    clear q0 q1 q2 q3 q4 q5 q6 q7 q8 jM
    refine (C3.out _ (HO.out.ex E2.out)).mono ?_
    rintro r w3 ⟨rfl, he3⟩
    have E3 := Lib.hid (E2.out.trans he3)
    have K3 := Lib.hid (K2.out.ex he3)
    clear he3 E2 K2
    obtain ⟨q0, q1, q2, q3, q4, q5, q6, q7, q8⟩ := K3.out.c9
    have jM := K3.out.lt
    go_wp2_with fail
    clear q0 q1 q2 q3 q4 q5 q6 q7 q8 jM
    refine (C4.out _ (HO.out.ex E3.out)).mono ?_
    rintro r w4 ⟨rfl, he4⟩
    have E4 := Lib.hid (E3.out.trans he4)
    have K4 := Lib.hid (K3.out.ex he4)
    clear he4 E3 K3
    obtain ⟨q0, q1, q2, q3, q4, q5, q6, q7, q8⟩ := K4.out.c9
    have jM := K4.out.lt
    go_wp2
    go_ret
    exact ⟨rfl, E4.out⟩
  have HNO : Hid (∀ w', Ex w w' → ¬ MachOk m → (Ending.returned (.bool false) = .returned (.bool (machV m)) ∧ Ex w w')) := Lib.hid (fun w' h1 h2 => ⟨ret_bool (machV_no h2).symm, h1⟩)
  have HOK : Hid (MachHead m) := Lib.hid ⟨tableV_iff.1 h1, h2, h3, by omega⟩
  have CL := Lib.hid (fun x hp w' h => l6Line_c m ⟨A, c, B, d, L, e, O, g⟩ x w' h hf hc (tableV_iff.1 h1) h3 hp)
  dsimp only at CL
  have CEL : Hid (∀ (args : Array Value) (w : World), (callFunc 25 args).run Tryd.prog w = .ok (.enter 25 args) w) := Lib.hid (enters Tryd.func25 (by kernel_rfl) (by kernel_rfl))
  have HLP := Lib.hid (fun i x h5 h6 => @line_page m.cache h2 i x h5 h6)
  generalize ownPlace m.tags.owns m.space = op at h4 C4
  obtain ⟨n, en⟩ : ∃ n, n = m.table.frames.length := ⟨_, rfl⟩
  obtain ⟨nl, el⟩ : ∃ n, n = m.cache.lines.length := ⟨_, rfl⟩
  have HN := Lib.hid en
  have HNL := Lib.hid el
  have hfl : nl ≤ 1048576 := by rw [el]; exact hf.l
  have hfn : n ≤ 1048576 := by rw [en]; exact hf.f
  rw [← en] at C1 CL ⊢
  rw [← el] at C2 CL ⊢
  generalize m.table.buckets.length = nb at C1 CL ⊢
  generalize m.tags.owns.length = no at C3 C4 CL ⊢
  clear en el hf hc h1 h2 h3
  go_enter Tryd.func7, Tryd.ntmps7
  go_wp2_with fail
  have K0 : Hid (Blk (w.alloc (.cells #[.slice A nb c, .slice B n d, .slice L nl e, .int .i64 m.cache.hand, .int .i64 m.tags.count, .int .i64 m.tags.next, .int .i64 m.tags.round, .slice O no g, .int .i64 m.space] 46)) w.heap.size 46 [.slice A nb c, .slice B n d, .slice L nl e, .int .i64 m.cache.hand, .int .i64 m.tags.count, .int .i64 m.tags.next, .int .i64 m.tags.round, .slice O no g, .int .i64 m.space]) := Lib.hid (Blk.new w _ _)
  have E0 : Hid (Ex w (w.alloc (.cells #[.slice A nb c, .slice B n d, .slice L nl e, .int .i64 m.cache.hand, .int .i64 m.tags.count, .int .i64 m.tags.next, .int .i64 m.tags.round, .slice O no g, .int .i64 m.space] 46))) := Lib.hid ((Ex.refl w).alloc _)
  refine (C1.out _ (HB.out.ex E0.out) (HF.out.ex E0.out)).mono ?_
  rintro r w1 ⟨rfl, he1⟩
  have E1 := Lib.hid (E0.out.trans he1)
  have K1 := Lib.hid (K0.out.ex he1)
  clear he1 E0 K0
  obtain ⟨q0, q1, q2, q3, q4, q5, q6, q7, q8⟩ := K1.out.c9
  have jM := K1.out.lt
  go_wp2_with fail
  clear q0 q1 q2 q3 q4 q5 q6 q7 q8 jM
  refine (C2.out _ (HL.out.ex E1.out)).mono ?_
  rintro r w2 ⟨rfl, he2⟩
  have E2 := Lib.hid (E1.out.trans he2)
  have K2 := Lib.hid (K1.out.ex he2)
  clear he2 E1 K1
  obtain ⟨q0, q1, q2, q3, q4, q5, q6, q7, q8⟩ := K2.out.c9
  have jM := K2.out.lt
  go_wp2_with fail
  clear q0 q1 q2 q3 q4 q5 q6 q7 q8 jM
  refine (C3.out _ (HO.out.ex E2.out)).mono ?_
  rintro r w3 ⟨rfl, he3⟩
  have E3 := Lib.hid (E2.out.trans he3)
  have K3 := Lib.hid (K2.out.ex he3)
  clear he3 E2 K2
  obtain ⟨q0, q1, q2, q3, q4, q5, q6, q7, q8⟩ := K3.out.c9
  have jM := K3.out.lt
  go_wp2_with fail
  clear q0 q1 q2 q3 q4 q5 q6 q7 q8 jM
  refine (C4.out _ (HO.out.ex E3.out)).mono ?_
  rintro r w4 ⟨rfl, he4⟩
  have E4 := Lib.hid (E3.out.trans he4)
  have K4 := Lib.hid (K3.out.ex he4)
  clear he4 E3 K3
  obtain ⟨q0, q1, q2, q3, q4, q5, q6, q7, q8⟩ := K4.out.c9
  have jM := K4.out.lt
  go_wp2
  clear q0 q1 q2 q3 q4 q5 q6 q7 q8 jM C1 C2 C3 C4
  obtain ⟨gm, hgm⟩ : ∃ gm : Nat, gm = w.heap.size := ⟨_, rfl⟩
  rw [← hgm] at K4 ⊢
  clear hgm
  go_loopw [3] (fun i wr => ∃ k : Nat, k ≤ n ∧ i = .int .i64 k ∧ Ex w4 wr ∧ ∀ (j : Nat) (h : FrameD), j < k → m.table.frames[j]? = some h → FrameFits h) (fun i _ => n - (intOf i).toNat)
  case atStart => exact ⟨0, Nat.zero_le _, rfl, Ex.refl _, fun j h hj => by omega⟩
  case round =>
    obtain ⟨k, hk, rfl, hq, hall⟩ := hrel
    have HQ := Lib.hid (E4.out.trans hq)
    have HQ4 := Lib.hid hq
    have HALL := Lib.hid hall
    have KQ := Lib.hid (K4.out.ex hq)
    clear hq hall
    obtain ⟨q0, q1, q2, q3, q4, q5, q6, q7, q8⟩ := KQ.out.c9
    have jM := KQ.out.lt
    by_cases hlt : k < n
    · obtain ⟨b2, o2, f, rfl, hb2, hfi, k0, k1, k2, k3, k4⟩ := (HF.out.ex HQ.out).frame (k := k) (by have := HN.out; omega)
      have HFI := Lib.hid hfi
      clear hfi
      have HNEXT : Hid (FrameFits f → ∀ (j : Nat) (h : FrameD), j < k + 1 → m.table.frames[j]? = some h → FrameFits h) := Lib.hid (fun hff j h hj hh => by
        by_cases e : j = k
        · subst e
          have := HFI.out
          rw [this] at hh
          injection hh with hh
          rw [← hh]; exact hff
        · exact HALL.out j h (by omega) hh)
      cases hu : f.used
      · rw [hu] at k0
        have HFF := Lib.hid (HNEXT.out (fun h => by rw [hu] at h; cases h.1))
        clear hu
        go_wp2
        go_roundw
        case rel => exact ⟨k + 1, by omega, by go_num, HQ4.out.alloc _, HFF.out⟩
        case measure => simp [intOf]; omega
      rw [hu] at k0
      by_cases hp : 128 ≤ f.key.page
      · by_cases hs : f.key.space = 0
        · have HFF := Lib.hid (HNEXT.out (fun h => h.2.2 hs))
          rw [hs] at k1
          clear hu
          go_wp2
          go_roundw
          case rel => exact ⟨k + 1, by omega, by go_num, HQ4.out.alloc _, HFF.out⟩
          case measure => simp [intOf]; omega
        · have HBAD : Hid (¬ MachOk m) := Lib.hid (fun h => h.2.1 k f HFI.out ⟨hu, hp, hs⟩)
          have hb1 : (f.key.space != 0) = true := by simpa using hs
          have hb2' : (!f.key.space == 0) = true := by simpa using hs
          clear hu
          go_wp2
          go_ret
          exact HNO.out _ (HQ.out.alloc _) HBAD.out
      · have HFF := Lib.hid (HNEXT.out (fun h => hp h.2.1))
        clear hu
        go_wp2
        go_roundw
        case rel => exact ⟨k + 1, by omega, by go_num, HQ4.out.alloc _, HFF.out⟩
        case measure => simp [intOf]; omega
    · obtain rfl : k = n := by omega
      have HFA : Hid (∀ (i : Nat) (f : FrameD), m.table.frames[i]? = some f → FrameFits f) := Lib.hid (fun i f h => HALL.out i f (by have := getElem?_lt h; have := HN.out; omega) h)
      go_wp2
      clear q0 q1 q2 q3 q4 q5 q6 q7 q8 jM HALL HQ KQ
      go_loopw [5] (fun i wq => ∃ q : Nat, q ≤ nl ∧ i = .int .i64 q ∧ Ex w4 wq ∧ ∀ (j : Nat) (h : LineD), j < q → m.cache.lines[j]? = some h → h.valid = true → LineFits m h) (fun i _ => nl - (intOf i).toNat)
      case atStart => exact ⟨0, Nat.zero_le _, rfl, HQ4.out, fun j h hj => by omega⟩
      case round =>
        clear HQ4
        obtain ⟨q, hk, rfl, hq, hall⟩ := hrel
        have HQ := Lib.hid (E4.out.trans hq)
        have HQ4 := Lib.hid hq
        have HALL := Lib.hid hall
        have KQ := Lib.hid (K4.out.ex hq)
        clear hq hall
        by_cases hlt : q < nl
        · obtain ⟨b3, o3, x, rfl, hb3, hxi, k0, k1, k2, k3, k4, k5⟩ := (HL.out.ex HQ.out).line (k := q) (by have := HNL.out; omega)
          have HXI := Lib.hid hxi
          clear hxi
          have HNEXT : Hid ((x.valid = true → LineFits m x) → ∀ (j : Nat) (h : LineD), j < q + 1 → m.cache.lines[j]? = some h → h.valid = true → LineFits m h) := Lib.hid (fun hff j h hj hh hv => by
            by_cases e : j = q
            · subst e
              have := HXI.out
              rw [this] at hh
              injection hh with hh
              subst hh; exact hff hv
            · exact HALL.out j h (by omega) hh hv)
          obtain ⟨q0, q1, q2, q3, q4, q5, q6, q7, q8⟩ := KQ.out.c9
          have jM := KQ.out.lt
          cases hv : x.valid
          · rw [hv] at k0
            have HFF := Lib.hid (HNEXT.out (fun h => by rw [hv] at h; cases h))
            clear hv
            go_wp2_with fail
            clear q0 q1 q2 q3 q4 q5 q6 q7 q8 jM
            have FK : Hid (∀ w', Ex wr w' → (w'.cell? ⟨gm, 0, none⟩ = some (.slice A nb c) ∧ w'.cell? ⟨gm, 1, none⟩ = some (.slice B k d) ∧ w'.cell? ⟨gm, 2, none⟩ = some (.slice (some ⟨b3, o3, none⟩) nl e) ∧ w'.cell? ⟨gm, 3, none⟩ = some (.int .i64 m.cache.hand) ∧ w'.cell? ⟨gm, 4, none⟩ = some (.int .i64 m.tags.count) ∧ w'.cell? ⟨gm, 5, none⟩ = some (.int .i64 m.tags.next) ∧ w'.cell? ⟨gm, 6, none⟩ = some (.int .i64 m.tags.round) ∧ w'.cell? ⟨gm, 7, none⟩ = some (.slice O no g) ∧ w'.cell? ⟨gm, 8, none⟩ = some (.int .i64 m.space) ∧ w'.cell? ⟨b3, o3 + q * 6, none⟩ = some (.bool false) ∧ w'.cell? ⟨b3, o3 + q * 6 + 1, none⟩ = some (.int .i64 x.tag) ∧ w'.cell? ⟨b3, o3 + q * 6 + 2, none⟩ = some (.int .i64 x.page) ∧ w'.cell? ⟨b3, o3 + q * 6 + 3, none⟩ = some (.int .i64 x.frame) ∧ w'.cell? ⟨b3, o3 + q * 6 + 4, none⟩ = some (.int .i64 x.rights) ∧ w'.cell? ⟨b3, o3 + q * 6 + 5, none⟩ = some (.bool x.wired))) := Lib.hid (fun w' h => ⟨(KQ.out.ex h).c9.1, (KQ.out.ex h).c9.2.1, (KQ.out.ex h).c9.2.2.1, (KQ.out.ex h).c9.2.2.2.1, (KQ.out.ex h).c9.2.2.2.2.1, (KQ.out.ex h).c9.2.2.2.2.2.1, (KQ.out.ex h).c9.2.2.2.2.2.2.1, (KQ.out.ex h).c9.2.2.2.2.2.2.2.1, (KQ.out.ex h).c9.2.2.2.2.2.2.2.2, (h.cell hb3).trans k0, (h.cell hb3).trans k1, (h.cell hb3).trans k2, (h.cell hb3).trans k3, (h.cell hb3).trans k4, (h.cell hb3).trans k5⟩)
            clear k0 k1 k2 k3 k4 k5
            refine wp_region_held_drew (S := (fun w' => (w'.cell? ⟨gm, 0, none⟩ = some (.slice A nb c) ∧ w'.cell? ⟨gm, 1, none⟩ = some (.slice B k d) ∧ w'.cell? ⟨gm, 2, none⟩ = some (.slice (some ⟨b3, o3, none⟩) nl e) ∧ w'.cell? ⟨gm, 3, none⟩ = some (.int .i64 m.cache.hand) ∧ w'.cell? ⟨gm, 4, none⟩ = some (.int .i64 m.tags.count) ∧ w'.cell? ⟨gm, 5, none⟩ = some (.int .i64 m.tags.next) ∧ w'.cell? ⟨gm, 6, none⟩ = some (.int .i64 m.tags.round) ∧ w'.cell? ⟨gm, 7, none⟩ = some (.slice O no g) ∧ w'.cell? ⟨gm, 8, none⟩ = some (.int .i64 m.space) ∧ w'.cell? ⟨b3, o3 + q * 6, none⟩ = some (.bool false) ∧ w'.cell? ⟨b3, o3 + q * 6 + 1, none⟩ = some (.int .i64 x.tag) ∧ w'.cell? ⟨b3, o3 + q * 6 + 2, none⟩ = some (.int .i64 x.page) ∧ w'.cell? ⟨b3, o3 + q * 6 + 3, none⟩ = some (.int .i64 x.frame) ∧ w'.cell? ⟨b3, o3 + q * 6 + 4, none⟩ = some (.int .i64 x.rights) ∧ w'.cell? ⟨b3, o3 + q * 6 + 5, none⟩ = some (.bool x.wired)))) (by kernel_rfl) ?r0_hS0 (fun hHeld => ?_)
            case r0_hS0 => exact FK.out _ (Ex.refl _).drew
            refine wpAnyH_take (i := 0) (oi := ?r0_o0) (v := ?r0_v0) ?r0_ho0 (by kernel_rfl) (by kernel_rfl) (by kernel_rfl) ?r0_hq0 ?r0_hy0 (by assumption) ?_
            case r0_ho0 => (conv => lhs; whnf; arg 1; whnf)
            case r0_hq0 => exact fun _ _ _ h => h
            case r0_hy0 => (refine Or.inl ⟨by rfl, ?_⟩; intro w hSw; (try dsimp only at hSw); first | (go_simp; done) | (go_simp; with_reducible rfl))
            try simp only [Act.put, List.setIfInBounds_toArray, List.set_cons_zero, List.set_cons_succ]
            refine wpAnyH_take (i := 1) (oi := ?r0_o1) (v := ?r0_v1) ?r0_ho1 (by kernel_rfl) (by kernel_rfl) (by kernel_rfl) ?r0_hq1 ?r0_hy1 (by assumption) ?_
            case r0_ho1 => (conv => lhs; whnf; arg 1; whnf)
            case r0_hq1 => exact fun _ _ _ h => h
            case r0_hy1 => (refine Or.inl ⟨by rfl, ?_⟩; intro w hSw; (try dsimp only at hSw); first | (go_simp; done) | (go_simp; with_reducible rfl))
            try simp only [Act.put, List.setIfInBounds_toArray, List.set_cons_zero, List.set_cons_succ]
            refine wpAnyH_take (i := 2) (oi := ?r0_o2) (v := ?r0_v2) ?r0_ho2 (by kernel_rfl) (by kernel_rfl) (by kernel_rfl) ?r0_hq2 ?r0_hy2 (by assumption) ?_
            case r0_ho2 => (conv => lhs; whnf; arg 1; whnf)
            case r0_hq2 => exact fun _ _ _ h => h
            case r0_hy2 => (refine Or.inl ⟨by rfl, ?_⟩; intro w hSw; (try dsimp only at hSw); first | (go_simp; done) | (go_simp; with_reducible rfl))
            try simp only [Act.put, List.setIfInBounds_toArray, List.set_cons_zero, List.set_cons_succ]
            refine wpAnyH_take (i := 3) (oi := ?r0_o3) (v := ?r0_v3) ?r0_ho3 (by kernel_rfl) (by kernel_rfl) (by kernel_rfl) ?r0_hq3 ?r0_hy3 (by assumption) ?_
            case r0_ho3 => (conv => lhs; whnf; arg 1; whnf)
            case r0_hq3 => exact fun _ _ _ h => h
            case r0_hy3 => (refine Or.inl ⟨by rfl, ?_⟩; intro w hSw; (try dsimp only at hSw); first | (go_simp; done) | (go_simp; with_reducible rfl))
            try simp only [Act.put, List.setIfInBounds_toArray, List.set_cons_zero, List.set_cons_succ]
            refine wpAnyH_take (i := 4) (oi := ?r0_o4) (v := ?r0_v4) ?r0_ho4 (by kernel_rfl) (by kernel_rfl) (by kernel_rfl) ?r0_hq4 ?r0_hy4 (by assumption) ?_
            case r0_ho4 => (conv => lhs; whnf; arg 1; whnf)
            case r0_hq4 => exact fun _ _ _ h => h
            case r0_hy4 => (refine Or.inl ⟨by rfl, ?_⟩; intro w hSw; (try dsimp only at hSw); first | (go_simp; done) | (go_simp; with_reducible rfl))
            try simp only [Act.put, List.setIfInBounds_toArray, List.set_cons_zero, List.set_cons_succ]
            refine wpAnyH_take (i := 5) (oi := ?r0_o5) (v := ?r0_v5) ?r0_ho5 (by kernel_rfl) (by kernel_rfl) (by kernel_rfl) ?r0_hq5 ?r0_hy5 (by assumption) ?_
            case r0_ho5 => (conv => lhs; whnf; arg 1; whnf)
            case r0_hq5 => exact fun _ _ _ h => h
            case r0_hy5 => (refine Or.inl ⟨by rfl, ?_⟩; intro w hSw; (try dsimp only at hSw); first | (go_simp; done) | (go_simp; with_reducible rfl))
            try simp only [Act.put, List.setIfInBounds_toArray, List.set_cons_zero, List.set_cons_succ]
            refine wpAnyH_take (i := 6) (oi := ?r0_o6) (v := ?r0_v6) ?r0_ho6 (by kernel_rfl) (by kernel_rfl) (by kernel_rfl) ?r0_hq6 ?r0_hy6 (by assumption) ?_
            case r0_ho6 => (conv => lhs; whnf; arg 1; whnf)
            case r0_hq6 => exact fun _ _ _ h => h
            case r0_hy6 => (refine Or.inl ⟨by rfl, ?_⟩; intro w hSw; (try dsimp only at hSw); first | (go_simp; done) | (go_simp; with_reducible rfl))
            try simp only [Act.put, List.setIfInBounds_toArray, List.set_cons_zero, List.set_cons_succ]
            refine wpAnyH_take (i := 7) (oi := ?r0_o7) (v := ?r0_v7) ?r0_ho7 (by kernel_rfl) (by kernel_rfl) (by kernel_rfl) ?r0_hq7 ?r0_hy7 (by assumption) ?_
            case r0_ho7 => (conv => lhs; whnf; arg 1; whnf)
            case r0_hq7 => exact fun _ _ _ h => h
            case r0_hy7 => (refine Or.inl ⟨by rfl, ?_⟩; intro w hSw; (try dsimp only at hSw); first | (go_simp; done) | (go_simp; with_reducible rfl))
            try simp only [Act.put, List.setIfInBounds_toArray, List.set_cons_zero, List.set_cons_succ]
            refine wpAnyH_take (i := 8) (oi := ?r0_o8) (v := undef) ?r0_ho8 (by kernel_rfl) (by kernel_rfl) (by kernel_rfl) ?r0_hq8 ?r0_hy8 (by assumption) ?_
            case r0_ho8 => (conv => lhs; whnf; arg 1; whnf)
            case r0_hq8 => exact fun _ _ _ h => h
            case r0_hy8 => exact Or.inr ⟨by rfl, rfl⟩
            try simp only [Act.put, List.setIfInBounds_toArray, List.set_cons_zero, List.set_cons_succ]
            refine wpAnyH_take (i := 9) (oi := ?r0_o9) (v := undef) ?r0_ho9 (by kernel_rfl) (by kernel_rfl) (by kernel_rfl) ?r0_hq9 ?r0_hy9 (by assumption) ?_
            case r0_ho9 => (conv => lhs; whnf; arg 1; whnf)
            case r0_hq9 => exact fun _ _ _ h => h
            case r0_hy9 => exact Or.inr ⟨by rfl, rfl⟩
            try simp only [Act.put, List.setIfInBounds_toArray, List.set_cons_zero, List.set_cons_succ]
            refine wpAnyH_take (i := 10) (oi := ?r0_o10) (v := undef) ?r0_ho10 (by kernel_rfl) (by kernel_rfl) (by kernel_rfl) ?r0_hq10 ?r0_hy10 (by assumption) ?_
            case r0_ho10 => (conv => lhs; whnf; arg 1; whnf)
            case r0_hq10 => exact fun _ _ _ h => h
            case r0_hy10 => exact Or.inr ⟨by rfl, rfl⟩
            try simp only [Act.put, List.setIfInBounds_toArray, List.set_cons_zero, List.set_cons_succ]
            refine wpAnyH_take (i := 11) (oi := ?r0_o11) (v := undef) ?r0_ho11 (by kernel_rfl) (by kernel_rfl) (by kernel_rfl) ?r0_hq11 ?r0_hy11 (by assumption) ?_
            case r0_ho11 => (conv => lhs; whnf; arg 1; whnf)
            case r0_hq11 => exact fun _ _ _ h => h
            case r0_hy11 => exact Or.inr ⟨by rfl, rfl⟩
            try simp only [Act.put, List.setIfInBounds_toArray, List.set_cons_zero, List.set_cons_succ]
            refine wpAnyH_take (i := 12) (oi := ?r0_o12) (v := undef) ?r0_ho12 (by kernel_rfl) (by kernel_rfl) (by kernel_rfl) ?r0_hq12 ?r0_hy12 (by assumption) ?_
            case r0_ho12 => (conv => lhs; whnf; arg 1; whnf)
            case r0_hq12 => exact fun _ _ _ h => h
            case r0_hy12 => exact Or.inr ⟨by rfl, rfl⟩
            try simp only [Act.put, List.setIfInBounds_toArray, List.set_cons_zero, List.set_cons_succ]
            refine wpAnyH_take (i := 13) (oi := ?r0_o13) (v := undef) ?r0_ho13 (by kernel_rfl) (by kernel_rfl) (by kernel_rfl) ?r0_hq13 ?r0_hy13 (by assumption) ?_
            case r0_ho13 => (conv => lhs; whnf; arg 1; whnf)
            case r0_hq13 => exact fun _ _ _ h => h
            case r0_hy13 => exact Or.inr ⟨by rfl, rfl⟩
            try simp only [Act.put, List.setIfInBounds_toArray, List.set_cons_zero, List.set_cons_succ]
            refine wpAnyH_take (i := 14) (oi := ?r0_o14) (v := undef) ?r0_ho14 (by kernel_rfl) (by kernel_rfl) (by kernel_rfl) ?r0_hq14 ?r0_hy14 (by assumption) ?_
            case r0_ho14 => (conv => lhs; whnf; arg 1; whnf)
            case r0_hq14 => exact fun _ _ _ h => h
            case r0_hy14 => exact Or.inr ⟨by rfl, rfl⟩
            try simp only [Act.put, List.setIfInBounds_toArray, List.set_cons_zero, List.set_cons_succ]
            refine wpAnyH_take (i := 15) (oi := ?r0_o15) (v := undef) ?r0_ho15 (by kernel_rfl) (by kernel_rfl) (by kernel_rfl) ?r0_hq15 ?r0_hy15 (by assumption) ?_
            case r0_ho15 => (conv => lhs; whnf; arg 1; whnf)
            case r0_hq15 => exact fun _ _ _ h => h
            case r0_hy15 => exact Or.inr ⟨by rfl, rfl⟩
            try simp only [Act.put, List.setIfInBounds_toArray, List.set_cons_zero, List.set_cons_succ]
            refine wpAnyH_take (i := 16) (oi := ?r0_o16) (v := undef) ?r0_ho16 (by kernel_rfl) (by kernel_rfl) (by kernel_rfl) ?r0_hq16 ?r0_hy16 (by assumption) ?_
            case r0_ho16 => (conv => lhs; whnf; arg 1; whnf)
            case r0_hq16 => exact fun _ _ _ h => h
            case r0_hy16 => exact Or.inr ⟨by rfl, rfl⟩
            try simp only [Act.put, List.setIfInBounds_toArray, List.set_cons_zero, List.set_cons_succ]
            refine wpAnyH_take (i := 17) (oi := ?r0_o17) (v := ?r0_v17) ?r0_ho17 (by kernel_rfl) (by kernel_rfl) (by kernel_rfl) ?r0_hq17 ?r0_hy17 (by assumption) ?_
            case r0_ho17 => (conv => lhs; whnf; arg 1; whnf)
            case r0_hq17 => exact fun _ _ _ h => h
            case r0_hy17 => (refine Or.inl ⟨by rfl, ?_⟩; intro w hSw; (try dsimp only at hSw); first | (go_simp; done) | (go_simp; with_reducible rfl))
            try simp only [Act.put, List.setIfInBounds_toArray, List.set_cons_zero, List.set_cons_succ]
            refine wpAnyH_done (by kernel_rfl) ?_ _
            go_wp2
            go_roundw
            case rel => exact ⟨q + 1, by omega, by go_num, HQ4.out.drew, HFF.out⟩
            case measure => simp [intOf]; omega
          rw [hv] at k0
          have CL := Lib.hid (CL.out x (HLP.out q x HXI.out hv))
          rw [hv] at CL
          cases hlf : lineFitsB m x
          · rw [hlf] at CL
            have HBAD : Hid (¬ MachOk m) := Lib.hid (fun h => by have := lineFitsB_iff.2 (h.2.2 q x HXI.out hv); rw [hlf] at this; cases this)
            clear hv hlf
            go_wp2_with fail
            clear q0 q1 q2 q3 q4 q5 q6 q7 q8 jM
            have FK : Hid (∀ w', Ex wr w' → (w'.cell? ⟨gm, 0, none⟩ = some (.slice A nb c) ∧ w'.cell? ⟨gm, 1, none⟩ = some (.slice B k d) ∧ w'.cell? ⟨gm, 2, none⟩ = some (.slice (some ⟨b3, o3, none⟩) nl e) ∧ w'.cell? ⟨gm, 3, none⟩ = some (.int .i64 m.cache.hand) ∧ w'.cell? ⟨gm, 4, none⟩ = some (.int .i64 m.tags.count) ∧ w'.cell? ⟨gm, 5, none⟩ = some (.int .i64 m.tags.next) ∧ w'.cell? ⟨gm, 6, none⟩ = some (.int .i64 m.tags.round) ∧ w'.cell? ⟨gm, 7, none⟩ = some (.slice O no g) ∧ w'.cell? ⟨gm, 8, none⟩ = some (.int .i64 m.space) ∧ w'.cell? ⟨b3, o3 + q * 6, none⟩ = some (.bool true) ∧ w'.cell? ⟨b3, o3 + q * 6 + 1, none⟩ = some (.int .i64 x.tag) ∧ w'.cell? ⟨b3, o3 + q * 6 + 2, none⟩ = some (.int .i64 x.page) ∧ w'.cell? ⟨b3, o3 + q * 6 + 3, none⟩ = some (.int .i64 x.frame) ∧ w'.cell? ⟨b3, o3 + q * 6 + 4, none⟩ = some (.int .i64 x.rights) ∧ w'.cell? ⟨b3, o3 + q * 6 + 5, none⟩ = some (.bool x.wired))) := Lib.hid (fun w' h => ⟨(KQ.out.ex h).c9.1, (KQ.out.ex h).c9.2.1, (KQ.out.ex h).c9.2.2.1, (KQ.out.ex h).c9.2.2.2.1, (KQ.out.ex h).c9.2.2.2.2.1, (KQ.out.ex h).c9.2.2.2.2.2.1, (KQ.out.ex h).c9.2.2.2.2.2.2.1, (KQ.out.ex h).c9.2.2.2.2.2.2.2.1, (KQ.out.ex h).c9.2.2.2.2.2.2.2.2, (h.cell hb3).trans k0, (h.cell hb3).trans k1, (h.cell hb3).trans k2, (h.cell hb3).trans k3, (h.cell hb3).trans k4, (h.cell hb3).trans k5⟩)
            clear k0 k1 k2 k3 k4 k5
            refine wp_region_held_drew (S := (fun w' => (w'.cell? ⟨gm, 0, none⟩ = some (.slice A nb c) ∧ w'.cell? ⟨gm, 1, none⟩ = some (.slice B k d) ∧ w'.cell? ⟨gm, 2, none⟩ = some (.slice (some ⟨b3, o3, none⟩) nl e) ∧ w'.cell? ⟨gm, 3, none⟩ = some (.int .i64 m.cache.hand) ∧ w'.cell? ⟨gm, 4, none⟩ = some (.int .i64 m.tags.count) ∧ w'.cell? ⟨gm, 5, none⟩ = some (.int .i64 m.tags.next) ∧ w'.cell? ⟨gm, 6, none⟩ = some (.int .i64 m.tags.round) ∧ w'.cell? ⟨gm, 7, none⟩ = some (.slice O no g) ∧ w'.cell? ⟨gm, 8, none⟩ = some (.int .i64 m.space) ∧ w'.cell? ⟨b3, o3 + q * 6, none⟩ = some (.bool true) ∧ w'.cell? ⟨b3, o3 + q * 6 + 1, none⟩ = some (.int .i64 x.tag) ∧ w'.cell? ⟨b3, o3 + q * 6 + 2, none⟩ = some (.int .i64 x.page) ∧ w'.cell? ⟨b3, o3 + q * 6 + 3, none⟩ = some (.int .i64 x.frame) ∧ w'.cell? ⟨b3, o3 + q * 6 + 4, none⟩ = some (.int .i64 x.rights) ∧ w'.cell? ⟨b3, o3 + q * 6 + 5, none⟩ = some (.bool x.wired)))) (by kernel_rfl) ?r1_hS0 (fun hHeld => ?_)
            case r1_hS0 => exact FK.out _ (Ex.refl _).drew
            refine wpAnyH_take (i := 0) (oi := ?r1_o0) (v := ?r1_v0) ?r1_ho0 (by kernel_rfl) (by kernel_rfl) (by kernel_rfl) ?r1_hq0 ?r1_hy0 (by assumption) ?_
            case r1_ho0 => (conv => lhs; whnf; arg 1; whnf)
            case r1_hq0 => exact fun _ _ _ h => h
            case r1_hy0 => (refine Or.inl ⟨by rfl, ?_⟩; intro w hSw; (try dsimp only at hSw); first | (go_simp; done) | (go_simp; with_reducible rfl))
            try simp only [Act.put, List.setIfInBounds_toArray, List.set_cons_zero, List.set_cons_succ]
            refine wpAnyH_take (i := 1) (oi := ?r1_o1) (v := ?r1_v1) ?r1_ho1 (by kernel_rfl) (by kernel_rfl) (by kernel_rfl) ?r1_hq1 ?r1_hy1 (by assumption) ?_
            case r1_ho1 => (conv => lhs; whnf; arg 1; whnf)
            case r1_hq1 => exact fun _ _ _ h => h
            case r1_hy1 => (refine Or.inl ⟨by rfl, ?_⟩; intro w hSw; (try dsimp only at hSw); first | (go_simp; done) | (go_simp; with_reducible rfl))
            try simp only [Act.put, List.setIfInBounds_toArray, List.set_cons_zero, List.set_cons_succ]
            refine wpAnyH_take (i := 2) (oi := ?r1_o2) (v := ?r1_v2) ?r1_ho2 (by kernel_rfl) (by kernel_rfl) (by kernel_rfl) ?r1_hq2 ?r1_hy2 (by assumption) ?_
            case r1_ho2 => (conv => lhs; whnf; arg 1; whnf)
            case r1_hq2 => exact fun _ _ _ h => h
            case r1_hy2 => (refine Or.inl ⟨by rfl, ?_⟩; intro w hSw; (try dsimp only at hSw); first | (go_simp; done) | (go_simp; with_reducible rfl))
            try simp only [Act.put, List.setIfInBounds_toArray, List.set_cons_zero, List.set_cons_succ]
            refine wpAnyH_take (i := 3) (oi := ?r1_o3) (v := ?r1_v3) ?r1_ho3 (by kernel_rfl) (by kernel_rfl) (by kernel_rfl) ?r1_hq3 ?r1_hy3 (by assumption) ?_
            case r1_ho3 => (conv => lhs; whnf; arg 1; whnf)
            case r1_hq3 => exact fun _ _ _ h => h
            case r1_hy3 => (refine Or.inl ⟨by rfl, ?_⟩; intro w hSw; (try dsimp only at hSw); first | (go_simp; done) | (go_simp; with_reducible rfl))
            try simp only [Act.put, List.setIfInBounds_toArray, List.set_cons_zero, List.set_cons_succ]
            refine wpAnyH_take (i := 4) (oi := ?r1_o4) (v := ?r1_v4) ?r1_ho4 (by kernel_rfl) (by kernel_rfl) (by kernel_rfl) ?r1_hq4 ?r1_hy4 (by assumption) ?_
            case r1_ho4 => (conv => lhs; whnf; arg 1; whnf)
            case r1_hq4 => exact fun _ _ _ h => h
            case r1_hy4 => (refine Or.inl ⟨by rfl, ?_⟩; intro w hSw; (try dsimp only at hSw); first | (go_simp; done) | (go_simp; with_reducible rfl))
            try simp only [Act.put, List.setIfInBounds_toArray, List.set_cons_zero, List.set_cons_succ]
            refine wpAnyH_take (i := 5) (oi := ?r1_o5) (v := ?r1_v5) ?r1_ho5 (by kernel_rfl) (by kernel_rfl) (by kernel_rfl) ?r1_hq5 ?r1_hy5 (by assumption) ?_
            case r1_ho5 => (conv => lhs; whnf; arg 1; whnf)
            case r1_hq5 => exact fun _ _ _ h => h
            case r1_hy5 => (refine Or.inl ⟨by rfl, ?_⟩; intro w hSw; (try dsimp only at hSw); first | (go_simp; done) | (go_simp; with_reducible rfl))
            try simp only [Act.put, List.setIfInBounds_toArray, List.set_cons_zero, List.set_cons_succ]
            refine wpAnyH_take (i := 6) (oi := ?r1_o6) (v := ?r1_v6) ?r1_ho6 (by kernel_rfl) (by kernel_rfl) (by kernel_rfl) ?r1_hq6 ?r1_hy6 (by assumption) ?_
            case r1_ho6 => (conv => lhs; whnf; arg 1; whnf)
            case r1_hq6 => exact fun _ _ _ h => h
            case r1_hy6 => (refine Or.inl ⟨by rfl, ?_⟩; intro w hSw; (try dsimp only at hSw); first | (go_simp; done) | (go_simp; with_reducible rfl))
            try simp only [Act.put, List.setIfInBounds_toArray, List.set_cons_zero, List.set_cons_succ]
            refine wpAnyH_take (i := 7) (oi := ?r1_o7) (v := ?r1_v7) ?r1_ho7 (by kernel_rfl) (by kernel_rfl) (by kernel_rfl) ?r1_hq7 ?r1_hy7 (by assumption) ?_
            case r1_ho7 => (conv => lhs; whnf; arg 1; whnf)
            case r1_hq7 => exact fun _ _ _ h => h
            case r1_hy7 => (refine Or.inl ⟨by rfl, ?_⟩; intro w hSw; (try dsimp only at hSw); first | (go_simp; done) | (go_simp; with_reducible rfl))
            try simp only [Act.put, List.setIfInBounds_toArray, List.set_cons_zero, List.set_cons_succ]
            refine wpAnyH_take (i := 8) (oi := ?r1_o8) (v := ?r1_v8) ?r1_ho8 (by kernel_rfl) (by kernel_rfl) (by kernel_rfl) ?r1_hq8 ?r1_hy8 (by assumption) ?_
            case r1_ho8 => (conv => lhs; whnf; arg 1; whnf)
            case r1_hq8 => exact fun _ _ _ h => h
            case r1_hy8 => (refine Or.inl ⟨by rfl, ?_⟩; intro w hSw; (try dsimp only at hSw); first | (go_simp; done) | (go_simp; with_reducible rfl))
            try simp only [Act.put, List.setIfInBounds_toArray, List.set_cons_zero, List.set_cons_succ]
            refine wpAnyH_take (i := 9) (oi := ?r1_o9) (v := ?r1_v9) ?r1_ho9 (by kernel_rfl) (by kernel_rfl) (by kernel_rfl) ?r1_hq9 ?r1_hy9 (by assumption) ?_
            case r1_ho9 => (conv => lhs; whnf; arg 1; whnf)
            case r1_hq9 => exact fun _ _ _ h => h
            case r1_hy9 => (refine Or.inl ⟨by rfl, ?_⟩; intro w hSw; (try dsimp only at hSw); first | (go_simp; done) | (go_simp; with_reducible rfl))
            try simp only [Act.put, List.setIfInBounds_toArray, List.set_cons_zero, List.set_cons_succ]
            refine wpAnyH_take (i := 10) (oi := ?r1_o10) (v := ?r1_v10) ?r1_ho10 (by kernel_rfl) (by kernel_rfl) (by kernel_rfl) ?r1_hq10 ?r1_hy10 (by assumption) ?_
            case r1_ho10 => (conv => lhs; whnf; arg 1; whnf)
            case r1_hq10 => exact fun _ _ _ h => h
            case r1_hy10 => (refine Or.inl ⟨by rfl, ?_⟩; intro w hSw; (try dsimp only at hSw); first | (go_simp; done) | (go_simp; with_reducible rfl))
            try simp only [Act.put, List.setIfInBounds_toArray, List.set_cons_zero, List.set_cons_succ]
            refine wpAnyH_take (i := 11) (oi := ?r1_o11) (v := ?r1_v11) ?r1_ho11 (by kernel_rfl) (by kernel_rfl) (by kernel_rfl) ?r1_hq11 ?r1_hy11 (by assumption) ?_
            case r1_ho11 => (conv => lhs; whnf; arg 1; whnf)
            case r1_hq11 => exact fun _ _ _ h => h
            case r1_hy11 => (refine Or.inl ⟨by rfl, ?_⟩; intro w hSw; (try dsimp only at hSw); first | (go_simp; done) | (go_simp; with_reducible rfl))
            try simp only [Act.put, List.setIfInBounds_toArray, List.set_cons_zero, List.set_cons_succ]
            refine wpAnyH_take (i := 12) (oi := ?r1_o12) (v := ?r1_v12) ?r1_ho12 (by kernel_rfl) (by kernel_rfl) (by kernel_rfl) ?r1_hq12 ?r1_hy12 (by assumption) ?_
            case r1_ho12 => (conv => lhs; whnf; arg 1; whnf)
            case r1_hq12 => exact fun _ _ _ h => h
            case r1_hy12 => (refine Or.inl ⟨by rfl, ?_⟩; intro w hSw; (try dsimp only at hSw); first | (go_simp; done) | (go_simp; with_reducible rfl))
            try simp only [Act.put, List.setIfInBounds_toArray, List.set_cons_zero, List.set_cons_succ]
            refine wpAnyH_take (i := 13) (oi := ?r1_o13) (v := ?r1_v13) ?r1_ho13 (by kernel_rfl) (by kernel_rfl) (by kernel_rfl) ?r1_hq13 ?r1_hy13 (by assumption) ?_
            case r1_ho13 => (conv => lhs; whnf; arg 1; whnf)
            case r1_hq13 => exact fun _ _ _ h => h
            case r1_hy13 => (refine Or.inl ⟨by rfl, ?_⟩; intro w hSw; (try dsimp only at hSw); first | (go_simp; done) | (go_simp; with_reducible rfl))
            try simp only [Act.put, List.setIfInBounds_toArray, List.set_cons_zero, List.set_cons_succ]
            refine wpAnyH_take (i := 14) (oi := ?r1_o14) (v := ?r1_v14) ?r1_ho14 (by kernel_rfl) (by kernel_rfl) (by kernel_rfl) ?r1_hq14 ?r1_hy14 (by assumption) ?_
            case r1_ho14 => (conv => lhs; whnf; arg 1; whnf)
            case r1_hq14 => exact fun _ _ _ h => h
            case r1_hy14 => (refine Or.inl ⟨by rfl, ?_⟩; intro w hSw; (try dsimp only at hSw); first | (go_simp; done) | (go_simp; with_reducible rfl))
            try simp only [Act.put, List.setIfInBounds_toArray, List.set_cons_zero, List.set_cons_succ]
            refine wpAnyH_ready (rs := [15]) (by kernel_rfl) (by simp) ?_
            refine AllReadyH.cons (o := ?r1_o15) ?r1_ho15 (fun K hK => ?_) AllReadyH.nil
            case r1_ho15 => (conv => lhs; whnf; arg 1; whnf)
            refine step_call_gu rfl CEL.out _ _ rfl #[.agg #[.slice A nb c, .slice B k d, .slice (some ⟨b3, o3, none⟩) nl e, .int .i64 m.cache.hand, .int .i64 m.tags.count, .int .i64 m.tags.next, .int .i64 m.tags.round, .slice O no g, .int .i64 m.space], .agg #[.bool true, .int .i64 x.tag, .int .i64 x.page, .int .i64 x.frame, .int .i64 x.rights, .bool x.wired]] rfl (CL.out _ ⟨HB.out.ex HQ.out.drew, HF.out.ex HQ.out.drew, HL.out.ex HQ.out.drew, HO.out.ex HQ.out.drew⟩) ?_; rintro r wa ⟨rfl, hwa⟩; refine ⟨_, rfl, ?_⟩; have hxa := Ex.trans (Ex.refl _).drew hwa
            refine hK.out _ _ ?r1_hS15 (fun hHeld15 => ?_)
            case r1_hS15 => exact FK.out _ hxa
            clear hK K hHeld
            try simp only [Act.put, List.setIfInBounds_toArray, List.set_cons_zero, List.set_cons_succ]
            refine wpAnyH_take (i := 16) (oi := ?r1_o16) (v := ?r1_v16) ?r1_ho16 (by kernel_rfl) (by kernel_rfl) (by kernel_rfl) ?r1_hq16 ?r1_hy16 (by assumption) ?_
            case r1_ho16 => (conv => lhs; whnf; arg 1; whnf)
            case r1_hq16 => exact fun _ _ _ h => h
            case r1_hy16 => (refine Or.inl ⟨by rfl, ?_⟩; intro w hSw; (try dsimp only at hSw); first | (go_simp; done) | (go_simp; with_reducible rfl))
            try simp only [Act.put, List.setIfInBounds_toArray, List.set_cons_zero, List.set_cons_succ]
            refine wpAnyH_take (i := 17) (oi := ?r1_o17) (v := ?r1_v17) ?r1_ho17 (by kernel_rfl) (by kernel_rfl) (by kernel_rfl) ?r1_hq17 ?r1_hy17 (by assumption) ?_
            case r1_ho17 => (conv => lhs; whnf; arg 1; whnf)
            case r1_hq17 => exact fun _ _ _ h => h
            case r1_hy17 => (refine Or.inl ⟨by rfl, ?_⟩; intro w hSw; (try dsimp only at hSw); first | (go_simp; done) | (go_simp; with_reducible rfl))
            try simp only [Act.put, List.setIfInBounds_toArray, List.set_cons_zero, List.set_cons_succ]
            refine wpAnyH_done (by kernel_rfl) ?_ _
            go_wp2
            go_ret
            exact HNO.out _ (HQ.out.trans hxa) HBAD.out
          · rw [hlf] at CL
            have HFF := Lib.hid (HNEXT.out (fun _ => lineFitsB_iff.1 hlf))
            clear hv hlf
            go_wp2_with fail
            clear q0 q1 q2 q3 q4 q5 q6 q7 q8 jM
            have FK : Hid (∀ w', Ex wr w' → (w'.cell? ⟨gm, 0, none⟩ = some (.slice A nb c) ∧ w'.cell? ⟨gm, 1, none⟩ = some (.slice B k d) ∧ w'.cell? ⟨gm, 2, none⟩ = some (.slice (some ⟨b3, o3, none⟩) nl e) ∧ w'.cell? ⟨gm, 3, none⟩ = some (.int .i64 m.cache.hand) ∧ w'.cell? ⟨gm, 4, none⟩ = some (.int .i64 m.tags.count) ∧ w'.cell? ⟨gm, 5, none⟩ = some (.int .i64 m.tags.next) ∧ w'.cell? ⟨gm, 6, none⟩ = some (.int .i64 m.tags.round) ∧ w'.cell? ⟨gm, 7, none⟩ = some (.slice O no g) ∧ w'.cell? ⟨gm, 8, none⟩ = some (.int .i64 m.space) ∧ w'.cell? ⟨b3, o3 + q * 6, none⟩ = some (.bool true) ∧ w'.cell? ⟨b3, o3 + q * 6 + 1, none⟩ = some (.int .i64 x.tag) ∧ w'.cell? ⟨b3, o3 + q * 6 + 2, none⟩ = some (.int .i64 x.page) ∧ w'.cell? ⟨b3, o3 + q * 6 + 3, none⟩ = some (.int .i64 x.frame) ∧ w'.cell? ⟨b3, o3 + q * 6 + 4, none⟩ = some (.int .i64 x.rights) ∧ w'.cell? ⟨b3, o3 + q * 6 + 5, none⟩ = some (.bool x.wired))) := Lib.hid (fun w' h => ⟨(KQ.out.ex h).c9.1, (KQ.out.ex h).c9.2.1, (KQ.out.ex h).c9.2.2.1, (KQ.out.ex h).c9.2.2.2.1, (KQ.out.ex h).c9.2.2.2.2.1, (KQ.out.ex h).c9.2.2.2.2.2.1, (KQ.out.ex h).c9.2.2.2.2.2.2.1, (KQ.out.ex h).c9.2.2.2.2.2.2.2.1, (KQ.out.ex h).c9.2.2.2.2.2.2.2.2, (h.cell hb3).trans k0, (h.cell hb3).trans k1, (h.cell hb3).trans k2, (h.cell hb3).trans k3, (h.cell hb3).trans k4, (h.cell hb3).trans k5⟩)
            clear k0 k1 k2 k3 k4 k5
            refine wp_region_held_drew (S := (fun w' => (w'.cell? ⟨gm, 0, none⟩ = some (.slice A nb c) ∧ w'.cell? ⟨gm, 1, none⟩ = some (.slice B k d) ∧ w'.cell? ⟨gm, 2, none⟩ = some (.slice (some ⟨b3, o3, none⟩) nl e) ∧ w'.cell? ⟨gm, 3, none⟩ = some (.int .i64 m.cache.hand) ∧ w'.cell? ⟨gm, 4, none⟩ = some (.int .i64 m.tags.count) ∧ w'.cell? ⟨gm, 5, none⟩ = some (.int .i64 m.tags.next) ∧ w'.cell? ⟨gm, 6, none⟩ = some (.int .i64 m.tags.round) ∧ w'.cell? ⟨gm, 7, none⟩ = some (.slice O no g) ∧ w'.cell? ⟨gm, 8, none⟩ = some (.int .i64 m.space) ∧ w'.cell? ⟨b3, o3 + q * 6, none⟩ = some (.bool true) ∧ w'.cell? ⟨b3, o3 + q * 6 + 1, none⟩ = some (.int .i64 x.tag) ∧ w'.cell? ⟨b3, o3 + q * 6 + 2, none⟩ = some (.int .i64 x.page) ∧ w'.cell? ⟨b3, o3 + q * 6 + 3, none⟩ = some (.int .i64 x.frame) ∧ w'.cell? ⟨b3, o3 + q * 6 + 4, none⟩ = some (.int .i64 x.rights) ∧ w'.cell? ⟨b3, o3 + q * 6 + 5, none⟩ = some (.bool x.wired)))) (by kernel_rfl) ?r2_hS0 (fun hHeld => ?_)
            case r2_hS0 => exact FK.out _ (Ex.refl _).drew
            refine wpAnyH_take (i := 0) (oi := ?r2_o0) (v := ?r2_v0) ?r2_ho0 (by kernel_rfl) (by kernel_rfl) (by kernel_rfl) ?r2_hq0 ?r2_hy0 (by assumption) ?_
            case r2_ho0 => (conv => lhs; whnf; arg 1; whnf)
            case r2_hq0 => exact fun _ _ _ h => h
            case r2_hy0 => (refine Or.inl ⟨by rfl, ?_⟩; intro w hSw; (try dsimp only at hSw); first | (go_simp; done) | (go_simp; with_reducible rfl))
            try simp only [Act.put, List.setIfInBounds_toArray, List.set_cons_zero, List.set_cons_succ]
            refine wpAnyH_take (i := 1) (oi := ?r2_o1) (v := ?r2_v1) ?r2_ho1 (by kernel_rfl) (by kernel_rfl) (by kernel_rfl) ?r2_hq1 ?r2_hy1 (by assumption) ?_
            case r2_ho1 => (conv => lhs; whnf; arg 1; whnf)
            case r2_hq1 => exact fun _ _ _ h => h
            case r2_hy1 => (refine Or.inl ⟨by rfl, ?_⟩; intro w hSw; (try dsimp only at hSw); first | (go_simp; done) | (go_simp; with_reducible rfl))
            try simp only [Act.put, List.setIfInBounds_toArray, List.set_cons_zero, List.set_cons_succ]
            refine wpAnyH_take (i := 2) (oi := ?r2_o2) (v := ?r2_v2) ?r2_ho2 (by kernel_rfl) (by kernel_rfl) (by kernel_rfl) ?r2_hq2 ?r2_hy2 (by assumption) ?_
            case r2_ho2 => (conv => lhs; whnf; arg 1; whnf)
            case r2_hq2 => exact fun _ _ _ h => h
            case r2_hy2 => (refine Or.inl ⟨by rfl, ?_⟩; intro w hSw; (try dsimp only at hSw); first | (go_simp; done) | (go_simp; with_reducible rfl))
            try simp only [Act.put, List.setIfInBounds_toArray, List.set_cons_zero, List.set_cons_succ]
            refine wpAnyH_take (i := 3) (oi := ?r2_o3) (v := ?r2_v3) ?r2_ho3 (by kernel_rfl) (by kernel_rfl) (by kernel_rfl) ?r2_hq3 ?r2_hy3 (by assumption) ?_
            case r2_ho3 => (conv => lhs; whnf; arg 1; whnf)
            case r2_hq3 => exact fun _ _ _ h => h
            case r2_hy3 => (refine Or.inl ⟨by rfl, ?_⟩; intro w hSw; (try dsimp only at hSw); first | (go_simp; done) | (go_simp; with_reducible rfl))
            try simp only [Act.put, List.setIfInBounds_toArray, List.set_cons_zero, List.set_cons_succ]
            refine wpAnyH_take (i := 4) (oi := ?r2_o4) (v := ?r2_v4) ?r2_ho4 (by kernel_rfl) (by kernel_rfl) (by kernel_rfl) ?r2_hq4 ?r2_hy4 (by assumption) ?_
            case r2_ho4 => (conv => lhs; whnf; arg 1; whnf)
            case r2_hq4 => exact fun _ _ _ h => h
            case r2_hy4 => (refine Or.inl ⟨by rfl, ?_⟩; intro w hSw; (try dsimp only at hSw); first | (go_simp; done) | (go_simp; with_reducible rfl))
            try simp only [Act.put, List.setIfInBounds_toArray, List.set_cons_zero, List.set_cons_succ]
            refine wpAnyH_take (i := 5) (oi := ?r2_o5) (v := ?r2_v5) ?r2_ho5 (by kernel_rfl) (by kernel_rfl) (by kernel_rfl) ?r2_hq5 ?r2_hy5 (by assumption) ?_
            case r2_ho5 => (conv => lhs; whnf; arg 1; whnf)
            case r2_hq5 => exact fun _ _ _ h => h
            case r2_hy5 => (refine Or.inl ⟨by rfl, ?_⟩; intro w hSw; (try dsimp only at hSw); first | (go_simp; done) | (go_simp; with_reducible rfl))
            try simp only [Act.put, List.setIfInBounds_toArray, List.set_cons_zero, List.set_cons_succ]
            refine wpAnyH_take (i := 6) (oi := ?r2_o6) (v := ?r2_v6) ?r2_ho6 (by kernel_rfl) (by kernel_rfl) (by kernel_rfl) ?r2_hq6 ?r2_hy6 (by assumption) ?_
            case r2_ho6 => (conv => lhs; whnf; arg 1; whnf)
            case r2_hq6 => exact fun _ _ _ h => h
            case r2_hy6 => (refine Or.inl ⟨by rfl, ?_⟩; intro w hSw; (try dsimp only at hSw); first | (go_simp; done) | (go_simp; with_reducible rfl))
            try simp only [Act.put, List.setIfInBounds_toArray, List.set_cons_zero, List.set_cons_succ]
            refine wpAnyH_take (i := 7) (oi := ?r2_o7) (v := ?r2_v7) ?r2_ho7 (by kernel_rfl) (by kernel_rfl) (by kernel_rfl) ?r2_hq7 ?r2_hy7 (by assumption) ?_
            case r2_ho7 => (conv => lhs; whnf; arg 1; whnf)
            case r2_hq7 => exact fun _ _ _ h => h
            case r2_hy7 => (refine Or.inl ⟨by rfl, ?_⟩; intro w hSw; (try dsimp only at hSw); first | (go_simp; done) | (go_simp; with_reducible rfl))
            try simp only [Act.put, List.setIfInBounds_toArray, List.set_cons_zero, List.set_cons_succ]
            refine wpAnyH_take (i := 8) (oi := ?r2_o8) (v := ?r2_v8) ?r2_ho8 (by kernel_rfl) (by kernel_rfl) (by kernel_rfl) ?r2_hq8 ?r2_hy8 (by assumption) ?_
            case r2_ho8 => (conv => lhs; whnf; arg 1; whnf)
            case r2_hq8 => exact fun _ _ _ h => h
            case r2_hy8 => (refine Or.inl ⟨by rfl, ?_⟩; intro w hSw; (try dsimp only at hSw); first | (go_simp; done) | (go_simp; with_reducible rfl))
            try simp only [Act.put, List.setIfInBounds_toArray, List.set_cons_zero, List.set_cons_succ]
            refine wpAnyH_take (i := 9) (oi := ?r2_o9) (v := ?r2_v9) ?r2_ho9 (by kernel_rfl) (by kernel_rfl) (by kernel_rfl) ?r2_hq9 ?r2_hy9 (by assumption) ?_
            case r2_ho9 => (conv => lhs; whnf; arg 1; whnf)
            case r2_hq9 => exact fun _ _ _ h => h
            case r2_hy9 => (refine Or.inl ⟨by rfl, ?_⟩; intro w hSw; (try dsimp only at hSw); first | (go_simp; done) | (go_simp; with_reducible rfl))
            try simp only [Act.put, List.setIfInBounds_toArray, List.set_cons_zero, List.set_cons_succ]
            refine wpAnyH_take (i := 10) (oi := ?r2_o10) (v := ?r2_v10) ?r2_ho10 (by kernel_rfl) (by kernel_rfl) (by kernel_rfl) ?r2_hq10 ?r2_hy10 (by assumption) ?_
            case r2_ho10 => (conv => lhs; whnf; arg 1; whnf)
            case r2_hq10 => exact fun _ _ _ h => h
            case r2_hy10 => (refine Or.inl ⟨by rfl, ?_⟩; intro w hSw; (try dsimp only at hSw); first | (go_simp; done) | (go_simp; with_reducible rfl))
            try simp only [Act.put, List.setIfInBounds_toArray, List.set_cons_zero, List.set_cons_succ]
            refine wpAnyH_take (i := 11) (oi := ?r2_o11) (v := ?r2_v11) ?r2_ho11 (by kernel_rfl) (by kernel_rfl) (by kernel_rfl) ?r2_hq11 ?r2_hy11 (by assumption) ?_
            case r2_ho11 => (conv => lhs; whnf; arg 1; whnf)
            case r2_hq11 => exact fun _ _ _ h => h
            case r2_hy11 => (refine Or.inl ⟨by rfl, ?_⟩; intro w hSw; (try dsimp only at hSw); first | (go_simp; done) | (go_simp; with_reducible rfl))
            try simp only [Act.put, List.setIfInBounds_toArray, List.set_cons_zero, List.set_cons_succ]
            refine wpAnyH_take (i := 12) (oi := ?r2_o12) (v := ?r2_v12) ?r2_ho12 (by kernel_rfl) (by kernel_rfl) (by kernel_rfl) ?r2_hq12 ?r2_hy12 (by assumption) ?_
            case r2_ho12 => (conv => lhs; whnf; arg 1; whnf)
            case r2_hq12 => exact fun _ _ _ h => h
            case r2_hy12 => (refine Or.inl ⟨by rfl, ?_⟩; intro w hSw; (try dsimp only at hSw); first | (go_simp; done) | (go_simp; with_reducible rfl))
            try simp only [Act.put, List.setIfInBounds_toArray, List.set_cons_zero, List.set_cons_succ]
            refine wpAnyH_take (i := 13) (oi := ?r2_o13) (v := ?r2_v13) ?r2_ho13 (by kernel_rfl) (by kernel_rfl) (by kernel_rfl) ?r2_hq13 ?r2_hy13 (by assumption) ?_
            case r2_ho13 => (conv => lhs; whnf; arg 1; whnf)
            case r2_hq13 => exact fun _ _ _ h => h
            case r2_hy13 => (refine Or.inl ⟨by rfl, ?_⟩; intro w hSw; (try dsimp only at hSw); first | (go_simp; done) | (go_simp; with_reducible rfl))
            try simp only [Act.put, List.setIfInBounds_toArray, List.set_cons_zero, List.set_cons_succ]
            refine wpAnyH_take (i := 14) (oi := ?r2_o14) (v := ?r2_v14) ?r2_ho14 (by kernel_rfl) (by kernel_rfl) (by kernel_rfl) ?r2_hq14 ?r2_hy14 (by assumption) ?_
            case r2_ho14 => (conv => lhs; whnf; arg 1; whnf)
            case r2_hq14 => exact fun _ _ _ h => h
            case r2_hy14 => (refine Or.inl ⟨by rfl, ?_⟩; intro w hSw; (try dsimp only at hSw); first | (go_simp; done) | (go_simp; with_reducible rfl))
            try simp only [Act.put, List.setIfInBounds_toArray, List.set_cons_zero, List.set_cons_succ]
            refine wpAnyH_ready (rs := [15]) (by kernel_rfl) (by simp) ?_
            refine AllReadyH.cons (o := ?r2_o15) ?r2_ho15 (fun K hK => ?_) AllReadyH.nil
            case r2_ho15 => (conv => lhs; whnf; arg 1; whnf)
            refine step_call_gu rfl CEL.out _ _ rfl #[.agg #[.slice A nb c, .slice B k d, .slice (some ⟨b3, o3, none⟩) nl e, .int .i64 m.cache.hand, .int .i64 m.tags.count, .int .i64 m.tags.next, .int .i64 m.tags.round, .slice O no g, .int .i64 m.space], .agg #[.bool true, .int .i64 x.tag, .int .i64 x.page, .int .i64 x.frame, .int .i64 x.rights, .bool x.wired]] rfl (CL.out _ ⟨HB.out.ex HQ.out.drew, HF.out.ex HQ.out.drew, HL.out.ex HQ.out.drew, HO.out.ex HQ.out.drew⟩) ?_; rintro r wa ⟨rfl, hwa⟩; refine ⟨_, rfl, ?_⟩; have hxa := Ex.trans (Ex.refl _).drew hwa
            refine hK.out _ _ ?r2_hS15 (fun hHeld15 => ?_)
            case r2_hS15 => exact FK.out _ hxa
            clear hK K hHeld
            try simp only [Act.put, List.setIfInBounds_toArray, List.set_cons_zero, List.set_cons_succ]
            refine wpAnyH_take (i := 16) (oi := ?r2_o16) (v := ?r2_v16) ?r2_ho16 (by kernel_rfl) (by kernel_rfl) (by kernel_rfl) ?r2_hq16 ?r2_hy16 (by assumption) ?_
            case r2_ho16 => (conv => lhs; whnf; arg 1; whnf)
            case r2_hq16 => exact fun _ _ _ h => h
            case r2_hy16 => (refine Or.inl ⟨by rfl, ?_⟩; intro w hSw; (try dsimp only at hSw); first | (go_simp; done) | (go_simp; with_reducible rfl))
            try simp only [Act.put, List.setIfInBounds_toArray, List.set_cons_zero, List.set_cons_succ]
            refine wpAnyH_take (i := 17) (oi := ?r2_o17) (v := ?r2_v17) ?r2_ho17 (by kernel_rfl) (by kernel_rfl) (by kernel_rfl) ?r2_hq17 ?r2_hy17 (by assumption) ?_
            case r2_ho17 => (conv => lhs; whnf; arg 1; whnf)
            case r2_hq17 => exact fun _ _ _ h => h
            case r2_hy17 => (refine Or.inl ⟨by rfl, ?_⟩; intro w hSw; (try dsimp only at hSw); first | (go_simp; done) | (go_simp; with_reducible rfl))
            try simp only [Act.put, List.setIfInBounds_toArray, List.set_cons_zero, List.set_cons_succ]
            refine wpAnyH_done (by kernel_rfl) ?_ _
            go_wp2
            go_roundw
            case rel => exact ⟨q + 1, by omega, by go_num, HQ4.out.trans hxa, HFF.out⟩
            case measure => simp [intOf]; omega
        · obtain rfl : q = nl := by omega
          obtain ⟨q0, q1, q2, q3, q4, q5, q6, q7, q8⟩ := KQ.out.c9
          have jM := KQ.out.lt
          go_wp2
          go_ret
          exact ⟨ret_bool (machV_yes ⟨HOK.out, HFA.out, fun i x h => HALL.out i x (by have := getElem?_lt h; have := HNL.out; omega) h⟩).symm, HQ.out⟩
end Go.Proofs.YtihlaecbdlgbiaaDoor
