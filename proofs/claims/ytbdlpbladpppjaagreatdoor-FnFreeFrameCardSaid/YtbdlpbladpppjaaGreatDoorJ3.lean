/- Joined: Ws, Wc, Mm, Cz, Ca, Cy, Cm, Tx, Wd, Ck, Cn, Pl, Qa, We, Wg, Wh. -/
import Derived.Deep.RegionHeld3
import Derived.Deep.AppendLies
import Derived.Deep.QuietTactic
import Derived.Test.YtbdlpbladpppjaaGreatDoorJ2
import Derived.Test.YtbdlpbladpppjaaGreatDoorJ1
namespace Go.Proofs.YtbdlpbladpppjaaGreatDoor
open Go.ChangeShapes Go.WideShapes Go.ChangeAt Go.RowKit
open Rec (sz cs)
set_option linter.unusedVariables false
set_option maxRecDepth 100000

set_option maxHeartbeats 8000000 in
theorem machS_c (m : MachD) (a : MA) (w : World) (hx : HasM w m a) (hf : FewM m) (hc : CapM m a) :
    Calls Tryz.prog 23 #[.agg #[.slice a.b m.table.buckets.length a.bc, .slice a.f m.table.frames.length a.fc, .slice a.l m.cache.lines.length a.lc, .int .i64 m.cache.hand, .int .i64 m.tags.count, .int .i64 m.tags.next, .int .i64 m.tags.round, .slice a.o m.tags.owns.length a.oc, .int .i64 m.space]] w fun r w' => r = .returned (.bool (machV m)) ∧ Ex w w' := by
  obtain ⟨A, c, B, d, L, e, O, g⟩ := a
  have HB : Hid (Rd w A m.table.buckets) := zq hx.b
  have HF : Hid (Rd w B m.table.frames) := zq hx.f
  have HL : Hid (Rd w L m.cache.lines) := zq hx.l
  have HO : Hid (Rd w O m.tags.owns) := zq hx.o
  skip
  have C1 := zq (fun w' (h1 : Rd w' A m.table.buckets) (h2 : Rd w' B m.table.frames) => tableS_c m.table A c B d w' h1 h2 hf.b hf.f)
  have C2 := zq (fun w' (h1 : Rd w' L m.cache.lines) => cacheValidS_c m.cache L e w' h1 hf.l hc.l)
  have C3 := zq (fun w' (h1 : Rd w' O m.tags.owns) => tagsValidS_c m.tags O g w' h1 hf.o hc.o)
  have C4 := zq (fun w' (h1 : Rd w' O m.tags.owns) => l5Find_c m.tags m.space O g w' h1 hf.o)
  clear hx
  dsimp only
  cases h1 : tableV m.table
  · rw [machV_no (fun h => by have := tableV_yes h.1.1; rw [h1] at this; cases this)]
    rw [h1] at C1
    generalize m.table.frames.length = n at C1 ⊢
    generalize m.table.buckets.length = nb at C1 ⊢
    generalize m.cache.lines.length = nl at C2 ⊢
    generalize m.tags.owns.length = no at C3 C4 ⊢
    go_enter Tryz.func23, Tryz.ntmps23
    go_wp2_with fail
    have K0 : Hid (Blk (w.alloc (.cells #[.slice A nb c, .slice B n d, .slice L nl e, .int .i64 m.cache.hand, .int .i64 m.tags.count, .int .i64 m.tags.next, .int .i64 m.tags.round, .slice O no g, .int .i64 m.space] 34)) w.heap.size 34 [.slice A nb c, .slice B n d, .slice L nl e, .int .i64 m.cache.hand, .int .i64 m.tags.count, .int .i64 m.tags.next, .int .i64 m.tags.round, .slice O no g, .int .i64 m.space]) := zq (Blk.new w _ _)
    have E0 : Hid (Ex w (w.alloc (.cells #[.slice A nb c, .slice B n d, .slice L nl e, .int .i64 m.cache.hand, .int .i64 m.tags.count, .int .i64 m.tags.next, .int .i64 m.tags.round, .slice O no g, .int .i64 m.space] 34))) := zq ((Ex.refl w).alloc _)
    refine (C1.out _ (HB.out.ex E0.out) (HF.out.ex E0.out)).mono ?_
    rintro r w1 ⟨rfl, he1⟩
    have E1 := zq (E0.out.trans he1)
    have K1 := zq (K0.out.ex he1)
    clear he1 E0 K0
    obtain ⟨q0, q1, q2, q3, q4, q5, q6, q7, q8⟩ := K1.out.c9
    have jM := K1.out.lt
    go_wp2
    go_ret
    exact ⟨rfl, E1.out⟩
  rw [h1] at C1
  cases h2 : cacheV m.cache
  · rw [machV_no (fun h => by have := h.1.2.1; rw [h2] at this; cases this)]
    rw [h2] at C2
    generalize m.table.frames.length = n at C1 ⊢
    generalize m.table.buckets.length = nb at C1 ⊢
    generalize m.cache.lines.length = nl at C2 ⊢
    generalize m.tags.owns.length = no at C3 C4 ⊢
    go_enter Tryz.func23, Tryz.ntmps23
    go_wp2_with fail
    have K0 : Hid (Blk (w.alloc (.cells #[.slice A nb c, .slice B n d, .slice L nl e, .int .i64 m.cache.hand, .int .i64 m.tags.count, .int .i64 m.tags.next, .int .i64 m.tags.round, .slice O no g, .int .i64 m.space] 34)) w.heap.size 34 [.slice A nb c, .slice B n d, .slice L nl e, .int .i64 m.cache.hand, .int .i64 m.tags.count, .int .i64 m.tags.next, .int .i64 m.tags.round, .slice O no g, .int .i64 m.space]) := zq (Blk.new w _ _)
    have E0 : Hid (Ex w (w.alloc (.cells #[.slice A nb c, .slice B n d, .slice L nl e, .int .i64 m.cache.hand, .int .i64 m.tags.count, .int .i64 m.tags.next, .int .i64 m.tags.round, .slice O no g, .int .i64 m.space] 34))) := zq ((Ex.refl w).alloc _)
    refine (C1.out _ (HB.out.ex E0.out) (HF.out.ex E0.out)).mono ?_
    rintro r w1 ⟨rfl, he1⟩
    have E1 := zq (E0.out.trans he1)
    have K1 := zq (K0.out.ex he1)
    clear he1 E0 K0
    obtain ⟨q0, q1, q2, q3, q4, q5, q6, q7, q8⟩ := K1.out.c9
    have jM := K1.out.lt
    go_wp2_with fail
    clear q0 q1 q2 q3 q4 q5 q6 q7 q8 jM
    refine (C2.out _ (HL.out.ex E1.out)).mono ?_
    rintro r w2 ⟨rfl, he2⟩
    have E2 := zq (E1.out.trans he2)
    have K2 := zq (K1.out.ex he2)
    clear he2 E1 K1
    obtain ⟨q0, q1, q2, q3, q4, q5, q6, q7, q8⟩ := K2.out.c9
    have jM := K2.out.lt
    go_wp2
    go_ret
    exact ⟨rfl, E2.out⟩
  rw [h2] at C2
  cases h3 : tagsV m.tags
  · rw [machV_no (fun h => by have := h.1.2.2.1; rw [h3] at this; cases this)]
    rw [h3] at C3
    generalize m.table.frames.length = n at C1 ⊢
    generalize m.table.buckets.length = nb at C1 ⊢
    generalize m.cache.lines.length = nl at C2 ⊢
    generalize m.tags.owns.length = no at C3 C4 ⊢
    go_enter Tryz.func23, Tryz.ntmps23
    go_wp2_with fail
    have K0 : Hid (Blk (w.alloc (.cells #[.slice A nb c, .slice B n d, .slice L nl e, .int .i64 m.cache.hand, .int .i64 m.tags.count, .int .i64 m.tags.next, .int .i64 m.tags.round, .slice O no g, .int .i64 m.space] 34)) w.heap.size 34 [.slice A nb c, .slice B n d, .slice L nl e, .int .i64 m.cache.hand, .int .i64 m.tags.count, .int .i64 m.tags.next, .int .i64 m.tags.round, .slice O no g, .int .i64 m.space]) := zq (Blk.new w _ _)
    have E0 : Hid (Ex w (w.alloc (.cells #[.slice A nb c, .slice B n d, .slice L nl e, .int .i64 m.cache.hand, .int .i64 m.tags.count, .int .i64 m.tags.next, .int .i64 m.tags.round, .slice O no g, .int .i64 m.space] 34))) := zq ((Ex.refl w).alloc _)
    refine (C1.out _ (HB.out.ex E0.out) (HF.out.ex E0.out)).mono ?_
    rintro r w1 ⟨rfl, he1⟩
    have E1 := zq (E0.out.trans he1)
    have K1 := zq (K0.out.ex he1)
    clear he1 E0 K0
    obtain ⟨q0, q1, q2, q3, q4, q5, q6, q7, q8⟩ := K1.out.c9
    have jM := K1.out.lt
    go_wp2_with fail
    clear q0 q1 q2 q3 q4 q5 q6 q7 q8 jM
    refine (C2.out _ (HL.out.ex E1.out)).mono ?_
    rintro r w2 ⟨rfl, he2⟩
    have E2 := zq (E1.out.trans he2)
    have K2 := zq (K1.out.ex he2)
    clear he2 E1 K1
    obtain ⟨q0, q1, q2, q3, q4, q5, q6, q7, q8⟩ := K2.out.c9
    have jM := K2.out.lt
    go_wp2_with fail
    clear q0 q1 q2 q3 q4 q5 q6 q7 q8 jM
    refine (C3.out _ (HO.out.ex E2.out)).mono ?_
    rintro r w3 ⟨rfl, he3⟩
    have E3 := zq (E2.out.trans he3)
    have K3 := zq (K2.out.ex he3)
    clear he3 E2 K2
    obtain ⟨q0, q1, q2, q3, q4, q5, q6, q7, q8⟩ := K3.out.c9
    have jM := K3.out.lt
    go_wp2
    go_ret
    exact ⟨rfl, E3.out⟩
  rw [h3] at C3
  by_cases h4 : ownPlace m.tags.owns m.space < 0
  · rw [machV_no (fun h => by have := h.1.2.2.2; omega)]
    generalize ownPlace m.tags.owns m.space = op at h4 C4
    generalize m.table.frames.length = n at C1 ⊢
    generalize m.table.buckets.length = nb at C1 ⊢
    generalize m.cache.lines.length = nl at C2 ⊢
    generalize m.tags.owns.length = no at C3 C4 ⊢
    go_enter Tryz.func23, Tryz.ntmps23
    go_wp2_with fail
    have K0 : Hid (Blk (w.alloc (.cells #[.slice A nb c, .slice B n d, .slice L nl e, .int .i64 m.cache.hand, .int .i64 m.tags.count, .int .i64 m.tags.next, .int .i64 m.tags.round, .slice O no g, .int .i64 m.space] 34)) w.heap.size 34 [.slice A nb c, .slice B n d, .slice L nl e, .int .i64 m.cache.hand, .int .i64 m.tags.count, .int .i64 m.tags.next, .int .i64 m.tags.round, .slice O no g, .int .i64 m.space]) := zq (Blk.new w _ _)
    have E0 : Hid (Ex w (w.alloc (.cells #[.slice A nb c, .slice B n d, .slice L nl e, .int .i64 m.cache.hand, .int .i64 m.tags.count, .int .i64 m.tags.next, .int .i64 m.tags.round, .slice O no g, .int .i64 m.space] 34))) := zq ((Ex.refl w).alloc _)
    refine (C1.out _ (HB.out.ex E0.out) (HF.out.ex E0.out)).mono ?_
    rintro r w1 ⟨rfl, he1⟩
    have E1 := zq (E0.out.trans he1)
    have K1 := zq (K0.out.ex he1)
    clear he1 E0 K0
    obtain ⟨q0, q1, q2, q3, q4, q5, q6, q7, q8⟩ := K1.out.c9
    have jM := K1.out.lt
    go_wp2_with fail
    clear q0 q1 q2 q3 q4 q5 q6 q7 q8 jM
    refine (C2.out _ (HL.out.ex E1.out)).mono ?_
    rintro r w2 ⟨rfl, he2⟩
    have E2 := zq (E1.out.trans he2)
    have K2 := zq (K1.out.ex he2)
    clear he2 E1 K1
    obtain ⟨q0, q1, q2, q3, q4, q5, q6, q7, q8⟩ := K2.out.c9
    have jM := K2.out.lt
    go_wp2_with fail
    clear q0 q1 q2 q3 q4 q5 q6 q7 q8 jM
    refine (C3.out _ (HO.out.ex E2.out)).mono ?_
    rintro r w3 ⟨rfl, he3⟩
    have E3 := zq (E2.out.trans he3)
    have K3 := zq (K2.out.ex he3)
    clear he3 E2 K2
    obtain ⟨q0, q1, q2, q3, q4, q5, q6, q7, q8⟩ := K3.out.c9
    have jM := K3.out.lt
    go_wp2_with fail
    clear q0 q1 q2 q3 q4 q5 q6 q7 q8 jM
    refine (C4.out _ (HO.out.ex E3.out)).mono ?_
    rintro r w4 ⟨rfl, he4⟩
    have E4 := zq (E3.out.trans he4)
    have K4 := zq (K3.out.ex he4)
    clear he4 E3 K3
    obtain ⟨q0, q1, q2, q3, q4, q5, q6, q7, q8⟩ := K4.out.c9
    have jM := K4.out.lt
    go_wp2
    go_ret
    exact ⟨rfl, E4.out⟩
  have HNO : Hid (∀ w', Ex w w' → ¬ MachOk m → (Ending.returned (.bool false) = .returned (.bool (machV m)) ∧ Ex w w')) := zq (fun w' h1 h2 => ⟨ret_bool (machV_no h2).symm, h1⟩)
  have HOK : Hid (MachHead m) := zq ⟨tableV_iff.1 h1, h2, h3, by omega⟩
  have CL := zq (fun x hp w' h => l6Line_c m ⟨A, c, B, d, L, e, O, g⟩ x w' h hf hc (tableV_iff.1 h1) h3 hp)
  dsimp only at CL
  have CEL : Hid (∀ (args : Array Value) (w : World), (callFunc 50 args).run Tryz.prog w = .ok (.enter 50 args) w) := zq (enters Tryz.func50 (by kernel_rfl) (by kernel_rfl))
  have HLP := zq (fun i x h5 h6 => @line_page m.cache h2 i x h5 h6)
  generalize ownPlace m.tags.owns m.space = op at h4 C4
  obtain ⟨n, en⟩ : ∃ n, n = m.table.frames.length := ⟨_, rfl⟩
  obtain ⟨nl, el⟩ : ∃ n, n = m.cache.lines.length := ⟨_, rfl⟩
  have HN := zq en
  have HNL := zq el
  have hfl : nl ≤ 1048576 := by rw [el]; exact hf.l
  have hfn : n ≤ 1048576 := by rw [en]; exact hf.f
  rw [← en] at C1 CL ⊢
  rw [← el] at C2 CL ⊢
  generalize m.table.buckets.length = nb at C1 CL ⊢
  generalize m.tags.owns.length = no at C3 C4 CL ⊢
  clear en el hf hc h1 h2 h3
  go_enter Tryz.func23, Tryz.ntmps23
  go_wp2_with fail
  have K0 : Hid (Blk (w.alloc (.cells #[.slice A nb c, .slice B n d, .slice L nl e, .int .i64 m.cache.hand, .int .i64 m.tags.count, .int .i64 m.tags.next, .int .i64 m.tags.round, .slice O no g, .int .i64 m.space] 34)) w.heap.size 34 [.slice A nb c, .slice B n d, .slice L nl e, .int .i64 m.cache.hand, .int .i64 m.tags.count, .int .i64 m.tags.next, .int .i64 m.tags.round, .slice O no g, .int .i64 m.space]) := zq (Blk.new w _ _)
  have E0 : Hid (Ex w (w.alloc (.cells #[.slice A nb c, .slice B n d, .slice L nl e, .int .i64 m.cache.hand, .int .i64 m.tags.count, .int .i64 m.tags.next, .int .i64 m.tags.round, .slice O no g, .int .i64 m.space] 34))) := zq ((Ex.refl w).alloc _)
  refine (C1.out _ (HB.out.ex E0.out) (HF.out.ex E0.out)).mono ?_
  rintro r w1 ⟨rfl, he1⟩
  have E1 := zq (E0.out.trans he1)
  have K1 := zq (K0.out.ex he1)
  clear he1 E0 K0
  obtain ⟨q0, q1, q2, q3, q4, q5, q6, q7, q8⟩ := K1.out.c9
  have jM := K1.out.lt
  go_wp2_with fail
  clear q0 q1 q2 q3 q4 q5 q6 q7 q8 jM
  refine (C2.out _ (HL.out.ex E1.out)).mono ?_
  rintro r w2 ⟨rfl, he2⟩
  have E2 := zq (E1.out.trans he2)
  have K2 := zq (K1.out.ex he2)
  clear he2 E1 K1
  obtain ⟨q0, q1, q2, q3, q4, q5, q6, q7, q8⟩ := K2.out.c9
  have jM := K2.out.lt
  go_wp2_with fail
  clear q0 q1 q2 q3 q4 q5 q6 q7 q8 jM
  refine (C3.out _ (HO.out.ex E2.out)).mono ?_
  rintro r w3 ⟨rfl, he3⟩
  have E3 := zq (E2.out.trans he3)
  have K3 := zq (K2.out.ex he3)
  clear he3 E2 K2
  obtain ⟨q0, q1, q2, q3, q4, q5, q6, q7, q8⟩ := K3.out.c9
  have jM := K3.out.lt
  go_wp2_with fail
  clear q0 q1 q2 q3 q4 q5 q6 q7 q8 jM
  refine (C4.out _ (HO.out.ex E3.out)).mono ?_
  rintro r w4 ⟨rfl, he4⟩
  have E4 := zq (E3.out.trans he4)
  have K4 := zq (K3.out.ex he4)
  clear he4 E3 K3
  obtain ⟨q0, q1, q2, q3, q4, q5, q6, q7, q8⟩ := K4.out.c9
  have jM := K4.out.lt
  go_wp2
  clear q0 q1 q2 q3 q4 q5 q6 q7 q8 jM C1 C2 C3 C4
  obtain ⟨gm, hgm⟩ : ∃ gm : Nat, gm = w.heap.size := ⟨_, rfl⟩
  rw [← hgm] at K4 ⊢
  clear hgm
  go_loopw [3] (fun i wr => ∃ k : Nat, k ≤ n ∧ i = .int .i64 k ∧ Ex w4 wr ∧ ∀ (j : Nat) (h : FrameD), j < k → m.table.frames[j]? = some h → FrameFits h) (fun i _ => n - (intOf i).toNat)
  case atStart => exact ⟨0, Nat.zero_le _, rfl, Ex.refl _, fun j h hj => by omega⟩
  case round =>
    obtain ⟨k, hk, rfl, hq, hall⟩ := hrel
    have HQ := zq (E4.out.trans hq)
    have HQ4 := zq hq
    have HALL := zq hall
    have KQ := zq (K4.out.ex hq)
    clear hq hall
    obtain ⟨q0, q1, q2, q3, q4, q5, q6, q7, q8⟩ := KQ.out.c9
    have jM := KQ.out.lt
    by_cases hlt : k < n
    · obtain ⟨b2, o2, f, rfl, hb2, hfi, k0, k1, k2, k3, k4⟩ := (HF.out.ex HQ.out).frame (k := k) (by have := HN.out; omega)
      have HFI := zq hfi
      clear hfi
      have HNEXT : Hid (FrameFits f → ∀ (j : Nat) (h : FrameD), j < k + 1 → m.table.frames[j]? = some h → FrameFits h) := zq (fun hff j h hj hh => by
        by_cases e : j = k
        · subst e
          have := HFI.out
          rw [this] at hh
          injection hh with hh
          rw [← hh]; exact hff
        · exact HALL.out j h (by omega) hh)
      cases hu : f.used
      · rw [hu] at k0
        have HFF := zq (HNEXT.out (fun h => by rw [hu] at h; cases h.1))
        clear hu
        go_wp2
        go_roundw
        case rel => exact ⟨k + 1, by omega, by go_num, HQ4.out.alloc _, HFF.out⟩
        case measure => simp [intOf]; omega
      rw [hu] at k0
      by_cases hp : 128 ≤ f.key.page
      · by_cases hs : f.key.space = 0
        · have HFF := zq (HNEXT.out (fun h => h.2.2 hs))
          rw [hs] at k1
          clear hu
          go_wp2
          go_roundw
          case rel => exact ⟨k + 1, by omega, by go_num, HQ4.out.alloc _, HFF.out⟩
          case measure => simp [intOf]; omega
        · have HBAD : Hid (¬ MachOk m) := zq (fun h => h.2.1 k f HFI.out ⟨hu, hp, hs⟩)
          have hb1 : (f.key.space != 0) = true := by simpa using hs
          have hb2' : (!f.key.space == 0) = true := by simpa using hs
          clear hu
          go_wp2
          go_ret
          exact HNO.out _ (HQ.out.alloc _) HBAD.out
      · have HFF := zq (HNEXT.out (fun h => hp h.2.1))
        clear hu
        go_wp2
        go_roundw
        case rel => exact ⟨k + 1, by omega, by go_num, HQ4.out.alloc _, HFF.out⟩
        case measure => simp [intOf]; omega
    · obtain rfl : k = n := by omega
      have HFA : Hid (∀ (i : Nat) (f : FrameD), m.table.frames[i]? = some f → FrameFits f) := zq (fun i f h => HALL.out i f (by have := getElem?_lt h; have := HN.out; omega) h)
      go_wp2
      clear q0 q1 q2 q3 q4 q5 q6 q7 q8 jM HALL HQ KQ
      go_loopw [5] (fun i wq => ∃ q : Nat, q ≤ nl ∧ i = .int .i64 q ∧ Ex w4 wq ∧ ∀ (j : Nat) (h : LineD), j < q → m.cache.lines[j]? = some h → h.valid = true → LineFits m h) (fun i _ => nl - (intOf i).toNat)
      case atStart => exact ⟨0, Nat.zero_le _, rfl, HQ4.out, fun j h hj => by omega⟩
      case round =>
        clear HQ4
        obtain ⟨q, hk, rfl, hq, hall⟩ := hrel
        have HQ := zq (E4.out.trans hq)
        have HQ4 := zq hq
        have HALL := zq hall
        have KQ := zq (K4.out.ex hq)
        clear hq hall
        by_cases hlt : q < nl
        · obtain ⟨b3, o3, x, rfl, hb3, hxi, k0, k1, k2, k3, k4, k5⟩ := (HL.out.ex HQ.out).line (k := q) (by have := HNL.out; omega)
          have HXI := zq hxi
          clear hxi
          have HNEXT : Hid ((x.valid = true → LineFits m x) → ∀ (j : Nat) (h : LineD), j < q + 1 → m.cache.lines[j]? = some h → h.valid = true → LineFits m h) := zq (fun hff j h hj hh hv => by
            by_cases e : j = q
            · subst e
              have := HXI.out
              rw [this] at hh
              injection hh with hh
              subst hh; exact hff hv
            · exact HALL.out j h (by omega) hh hv)
          obtain ⟨q0, q1, q2, q3, q4, q5, q6, q7, q8⟩ := KQ.out.c9
          have jM := KQ.out.lt
          cases hv : x.valid
          · rw [hv] at k0
            have HFF := zq (HNEXT.out (fun h => by rw [hv] at h; cases h))
            clear hv
            go_wp2_with fail
            clear q0 q1 q2 q3 q4 q5 q6 q7 q8 jM
            have FK : Hid (∀ w', Ex wr w' → (w'.cell? ⟨gm, 0, none⟩ = some (.slice A nb c) ∧ w'.cell? ⟨gm, 1, none⟩ = some (.slice B k d) ∧ w'.cell? ⟨gm, 2, none⟩ = some (.slice (some ⟨b3, o3, none⟩) nl e) ∧ w'.cell? ⟨gm, 3, none⟩ = some (.int .i64 m.cache.hand) ∧ w'.cell? ⟨gm, 4, none⟩ = some (.int .i64 m.tags.count) ∧ w'.cell? ⟨gm, 5, none⟩ = some (.int .i64 m.tags.next) ∧ w'.cell? ⟨gm, 6, none⟩ = some (.int .i64 m.tags.round) ∧ w'.cell? ⟨gm, 7, none⟩ = some (.slice O no g) ∧ w'.cell? ⟨gm, 8, none⟩ = some (.int .i64 m.space) ∧ w'.cell? ⟨b3, o3 + q * 6, none⟩ = some (.bool false) ∧ w'.cell? ⟨b3, o3 + q * 6 + 1, none⟩ = some (.int .i64 x.tag) ∧ w'.cell? ⟨b3, o3 + q * 6 + 2, none⟩ = some (.int .i64 x.page) ∧ w'.cell? ⟨b3, o3 + q * 6 + 3, none⟩ = some (.int .i64 x.frame) ∧ w'.cell? ⟨b3, o3 + q * 6 + 4, none⟩ = some (.int .i64 x.rights) ∧ w'.cell? ⟨b3, o3 + q * 6 + 5, none⟩ = some (.bool x.wired))) := zq (fun w' h => ⟨(KQ.out.ex h).c9.1, (KQ.out.ex h).c9.2.1, (KQ.out.ex h).c9.2.2.1, (KQ.out.ex h).c9.2.2.2.1, (KQ.out.ex h).c9.2.2.2.2.1, (KQ.out.ex h).c9.2.2.2.2.2.1, (KQ.out.ex h).c9.2.2.2.2.2.2.1, (KQ.out.ex h).c9.2.2.2.2.2.2.2.1, (KQ.out.ex h).c9.2.2.2.2.2.2.2.2, (h.cell hb3).trans k0, (h.cell hb3).trans k1, (h.cell hb3).trans k2, (h.cell hb3).trans k3, (h.cell hb3).trans k4, (h.cell hb3).trans k5⟩)
            clear k0 k1 k2 k3 k4 k5
            refine wp_region_held_drew (S := (fun w' => (w'.cell? ⟨gm, 0, none⟩ = some (.slice A nb c) ∧ w'.cell? ⟨gm, 1, none⟩ = some (.slice B k d) ∧ w'.cell? ⟨gm, 2, none⟩ = some (.slice (some ⟨b3, o3, none⟩) nl e) ∧ w'.cell? ⟨gm, 3, none⟩ = some (.int .i64 m.cache.hand) ∧ w'.cell? ⟨gm, 4, none⟩ = some (.int .i64 m.tags.count) ∧ w'.cell? ⟨gm, 5, none⟩ = some (.int .i64 m.tags.next) ∧ w'.cell? ⟨gm, 6, none⟩ = some (.int .i64 m.tags.round) ∧ w'.cell? ⟨gm, 7, none⟩ = some (.slice O no g) ∧ w'.cell? ⟨gm, 8, none⟩ = some (.int .i64 m.space) ∧ w'.cell? ⟨b3, o3 + q * 6, none⟩ = some (.bool false) ∧ w'.cell? ⟨b3, o3 + q * 6 + 1, none⟩ = some (.int .i64 x.tag) ∧ w'.cell? ⟨b3, o3 + q * 6 + 2, none⟩ = some (.int .i64 x.page) ∧ w'.cell? ⟨b3, o3 + q * 6 + 3, none⟩ = some (.int .i64 x.frame) ∧ w'.cell? ⟨b3, o3 + q * 6 + 4, none⟩ = some (.int .i64 x.rights) ∧ w'.cell? ⟨b3, o3 + q * 6 + 5, none⟩ = some (.bool x.wired)))) (by kernel_rfl) ?r0_hS0 (fun hHeld => ?_)
            case r0_hS0 => exact FK.out _ (Ex.refl _).drew
            refine tk 0 ?_; refine tk 1 ?_; refine tk 2 ?_; refine tk 3 ?_; refine tk 4 ?_; refine tk 5 ?_; refine tk 6 ?_; refine tk 7 ?_; refine tn 8 ?_; refine tn 9 ?_; refine tn 10 ?_; refine tn 11 ?_; refine tn 12 ?_; refine tn 13 ?_
            refine tn 14 ?_; refine tn 15 ?_; refine tn 16 ?_; refine tk 17 ?_
            refine wpAnyH_done (by kernel_rfl) ?_ _
            go_wp2
            go_roundw
            case rel => exact ⟨q + 1, by omega, by go_num, HQ4.out.drew, HFF.out⟩
            case measure => simp [intOf]; omega
          rw [hv] at k0
          have CL := zq (CL.out x (HLP.out q x HXI.out hv))
          rw [hv] at CL
          cases hlf : lineFitsB m x
          · rw [hlf] at CL
            have HBAD : Hid (¬ MachOk m) := zq (fun h => by have := lineFitsB_iff.2 (h.2.2 q x HXI.out hv); rw [hlf] at this; cases this)
            clear hv hlf
            go_wp2_with fail
            clear q0 q1 q2 q3 q4 q5 q6 q7 q8 jM
            have FK : Hid (∀ w', Ex wr w' → (w'.cell? ⟨gm, 0, none⟩ = some (.slice A nb c) ∧ w'.cell? ⟨gm, 1, none⟩ = some (.slice B k d) ∧ w'.cell? ⟨gm, 2, none⟩ = some (.slice (some ⟨b3, o3, none⟩) nl e) ∧ w'.cell? ⟨gm, 3, none⟩ = some (.int .i64 m.cache.hand) ∧ w'.cell? ⟨gm, 4, none⟩ = some (.int .i64 m.tags.count) ∧ w'.cell? ⟨gm, 5, none⟩ = some (.int .i64 m.tags.next) ∧ w'.cell? ⟨gm, 6, none⟩ = some (.int .i64 m.tags.round) ∧ w'.cell? ⟨gm, 7, none⟩ = some (.slice O no g) ∧ w'.cell? ⟨gm, 8, none⟩ = some (.int .i64 m.space) ∧ w'.cell? ⟨b3, o3 + q * 6, none⟩ = some (.bool true) ∧ w'.cell? ⟨b3, o3 + q * 6 + 1, none⟩ = some (.int .i64 x.tag) ∧ w'.cell? ⟨b3, o3 + q * 6 + 2, none⟩ = some (.int .i64 x.page) ∧ w'.cell? ⟨b3, o3 + q * 6 + 3, none⟩ = some (.int .i64 x.frame) ∧ w'.cell? ⟨b3, o3 + q * 6 + 4, none⟩ = some (.int .i64 x.rights) ∧ w'.cell? ⟨b3, o3 + q * 6 + 5, none⟩ = some (.bool x.wired))) := zq (fun w' h => ⟨(KQ.out.ex h).c9.1, (KQ.out.ex h).c9.2.1, (KQ.out.ex h).c9.2.2.1, (KQ.out.ex h).c9.2.2.2.1, (KQ.out.ex h).c9.2.2.2.2.1, (KQ.out.ex h).c9.2.2.2.2.2.1, (KQ.out.ex h).c9.2.2.2.2.2.2.1, (KQ.out.ex h).c9.2.2.2.2.2.2.2.1, (KQ.out.ex h).c9.2.2.2.2.2.2.2.2, (h.cell hb3).trans k0, (h.cell hb3).trans k1, (h.cell hb3).trans k2, (h.cell hb3).trans k3, (h.cell hb3).trans k4, (h.cell hb3).trans k5⟩)
            clear k0 k1 k2 k3 k4 k5
            refine wp_region_held_drew (S := (fun w' => (w'.cell? ⟨gm, 0, none⟩ = some (.slice A nb c) ∧ w'.cell? ⟨gm, 1, none⟩ = some (.slice B k d) ∧ w'.cell? ⟨gm, 2, none⟩ = some (.slice (some ⟨b3, o3, none⟩) nl e) ∧ w'.cell? ⟨gm, 3, none⟩ = some (.int .i64 m.cache.hand) ∧ w'.cell? ⟨gm, 4, none⟩ = some (.int .i64 m.tags.count) ∧ w'.cell? ⟨gm, 5, none⟩ = some (.int .i64 m.tags.next) ∧ w'.cell? ⟨gm, 6, none⟩ = some (.int .i64 m.tags.round) ∧ w'.cell? ⟨gm, 7, none⟩ = some (.slice O no g) ∧ w'.cell? ⟨gm, 8, none⟩ = some (.int .i64 m.space) ∧ w'.cell? ⟨b3, o3 + q * 6, none⟩ = some (.bool true) ∧ w'.cell? ⟨b3, o3 + q * 6 + 1, none⟩ = some (.int .i64 x.tag) ∧ w'.cell? ⟨b3, o3 + q * 6 + 2, none⟩ = some (.int .i64 x.page) ∧ w'.cell? ⟨b3, o3 + q * 6 + 3, none⟩ = some (.int .i64 x.frame) ∧ w'.cell? ⟨b3, o3 + q * 6 + 4, none⟩ = some (.int .i64 x.rights) ∧ w'.cell? ⟨b3, o3 + q * 6 + 5, none⟩ = some (.bool x.wired)))) (by kernel_rfl) ?r1_hS0 (fun hHeld => ?_)
            case r1_hS0 => exact FK.out _ (Ex.refl _).drew
            refine tk 0 ?_; refine tk 1 ?_; refine tk 2 ?_; refine tk 3 ?_; refine tk 4 ?_; refine tk 5 ?_; refine tk 6 ?_; refine tk 7 ?_; refine tk 8 ?_; refine tk 9 ?_; refine tk 10 ?_; refine tk 11 ?_; refine tk 12 ?_; refine tk 13 ?_
            refine tk 14 ?_
            refine wpAnyH_ready (rs := [15]) (by kernel_rfl) (by simp) ?_
            refine AllReadyH.cons (o := ?r1_o15) ?r1_ho15 (fun K hK => ?_) AllReadyH.nil
            case r1_ho15 => (conv => lhs; whnf; arg 1; whnf)
            refine step_call_gu rfl CEL.out _ _ rfl #[.agg #[.slice A nb c, .slice B k d, .slice (some ⟨b3, o3, none⟩) nl e, .int .i64 m.cache.hand, .int .i64 m.tags.count, .int .i64 m.tags.next, .int .i64 m.tags.round, .slice O no g, .int .i64 m.space], .agg #[.bool true, .int .i64 x.tag, .int .i64 x.page, .int .i64 x.frame, .int .i64 x.rights, .bool x.wired]] rfl (CL.out _ ⟨HB.out.ex HQ.out.drew, HF.out.ex HQ.out.drew, HL.out.ex HQ.out.drew, HO.out.ex HQ.out.drew⟩) ?_; rintro r wa ⟨rfl, hwa⟩; refine ⟨_, rfl, ?_⟩; have hxa := Ex.trans (Ex.refl _).drew hwa
            refine hK.out _ _ ?r1_hS15 (fun hHeld15 => ?_)
            case r1_hS15 => exact FK.out _ hxa
            clear hK K hHeld
            try simp only [Act.put, List.setIfInBounds_toArray, List.set_cons_zero, List.set_cons_succ]
            refine tk 16 ?_; refine tk 17 ?_
            refine wpAnyH_done (by kernel_rfl) ?_ _
            go_wp2
            go_ret
            exact HNO.out _ (HQ.out.trans hxa) HBAD.out
          · rw [hlf] at CL
            have HFF := zq (HNEXT.out (fun _ => lineFitsB_iff.1 hlf))
            clear hv hlf
            go_wp2_with fail
            clear q0 q1 q2 q3 q4 q5 q6 q7 q8 jM
            have FK : Hid (∀ w', Ex wr w' → (w'.cell? ⟨gm, 0, none⟩ = some (.slice A nb c) ∧ w'.cell? ⟨gm, 1, none⟩ = some (.slice B k d) ∧ w'.cell? ⟨gm, 2, none⟩ = some (.slice (some ⟨b3, o3, none⟩) nl e) ∧ w'.cell? ⟨gm, 3, none⟩ = some (.int .i64 m.cache.hand) ∧ w'.cell? ⟨gm, 4, none⟩ = some (.int .i64 m.tags.count) ∧ w'.cell? ⟨gm, 5, none⟩ = some (.int .i64 m.tags.next) ∧ w'.cell? ⟨gm, 6, none⟩ = some (.int .i64 m.tags.round) ∧ w'.cell? ⟨gm, 7, none⟩ = some (.slice O no g) ∧ w'.cell? ⟨gm, 8, none⟩ = some (.int .i64 m.space) ∧ w'.cell? ⟨b3, o3 + q * 6, none⟩ = some (.bool true) ∧ w'.cell? ⟨b3, o3 + q * 6 + 1, none⟩ = some (.int .i64 x.tag) ∧ w'.cell? ⟨b3, o3 + q * 6 + 2, none⟩ = some (.int .i64 x.page) ∧ w'.cell? ⟨b3, o3 + q * 6 + 3, none⟩ = some (.int .i64 x.frame) ∧ w'.cell? ⟨b3, o3 + q * 6 + 4, none⟩ = some (.int .i64 x.rights) ∧ w'.cell? ⟨b3, o3 + q * 6 + 5, none⟩ = some (.bool x.wired))) := zq (fun w' h => ⟨(KQ.out.ex h).c9.1, (KQ.out.ex h).c9.2.1, (KQ.out.ex h).c9.2.2.1, (KQ.out.ex h).c9.2.2.2.1, (KQ.out.ex h).c9.2.2.2.2.1, (KQ.out.ex h).c9.2.2.2.2.2.1, (KQ.out.ex h).c9.2.2.2.2.2.2.1, (KQ.out.ex h).c9.2.2.2.2.2.2.2.1, (KQ.out.ex h).c9.2.2.2.2.2.2.2.2, (h.cell hb3).trans k0, (h.cell hb3).trans k1, (h.cell hb3).trans k2, (h.cell hb3).trans k3, (h.cell hb3).trans k4, (h.cell hb3).trans k5⟩)
            clear k0 k1 k2 k3 k4 k5
            refine wp_region_held_drew (S := (fun w' => (w'.cell? ⟨gm, 0, none⟩ = some (.slice A nb c) ∧ w'.cell? ⟨gm, 1, none⟩ = some (.slice B k d) ∧ w'.cell? ⟨gm, 2, none⟩ = some (.slice (some ⟨b3, o3, none⟩) nl e) ∧ w'.cell? ⟨gm, 3, none⟩ = some (.int .i64 m.cache.hand) ∧ w'.cell? ⟨gm, 4, none⟩ = some (.int .i64 m.tags.count) ∧ w'.cell? ⟨gm, 5, none⟩ = some (.int .i64 m.tags.next) ∧ w'.cell? ⟨gm, 6, none⟩ = some (.int .i64 m.tags.round) ∧ w'.cell? ⟨gm, 7, none⟩ = some (.slice O no g) ∧ w'.cell? ⟨gm, 8, none⟩ = some (.int .i64 m.space) ∧ w'.cell? ⟨b3, o3 + q * 6, none⟩ = some (.bool true) ∧ w'.cell? ⟨b3, o3 + q * 6 + 1, none⟩ = some (.int .i64 x.tag) ∧ w'.cell? ⟨b3, o3 + q * 6 + 2, none⟩ = some (.int .i64 x.page) ∧ w'.cell? ⟨b3, o3 + q * 6 + 3, none⟩ = some (.int .i64 x.frame) ∧ w'.cell? ⟨b3, o3 + q * 6 + 4, none⟩ = some (.int .i64 x.rights) ∧ w'.cell? ⟨b3, o3 + q * 6 + 5, none⟩ = some (.bool x.wired)))) (by kernel_rfl) ?r2_hS0 (fun hHeld => ?_)
            case r2_hS0 => exact FK.out _ (Ex.refl _).drew
            refine tk 0 ?_; refine tk 1 ?_; refine tk 2 ?_; refine tk 3 ?_; refine tk 4 ?_; refine tk 5 ?_; refine tk 6 ?_; refine tk 7 ?_; refine tk 8 ?_; refine tk 9 ?_; refine tk 10 ?_; refine tk 11 ?_; refine tk 12 ?_; refine tk 13 ?_
            refine tk 14 ?_
            refine wpAnyH_ready (rs := [15]) (by kernel_rfl) (by simp) ?_
            refine AllReadyH.cons (o := ?r2_o15) ?r2_ho15 (fun K hK => ?_) AllReadyH.nil
            case r2_ho15 => (conv => lhs; whnf; arg 1; whnf)
            refine step_call_gu rfl CEL.out _ _ rfl #[.agg #[.slice A nb c, .slice B k d, .slice (some ⟨b3, o3, none⟩) nl e, .int .i64 m.cache.hand, .int .i64 m.tags.count, .int .i64 m.tags.next, .int .i64 m.tags.round, .slice O no g, .int .i64 m.space], .agg #[.bool true, .int .i64 x.tag, .int .i64 x.page, .int .i64 x.frame, .int .i64 x.rights, .bool x.wired]] rfl (CL.out _ ⟨HB.out.ex HQ.out.drew, HF.out.ex HQ.out.drew, HL.out.ex HQ.out.drew, HO.out.ex HQ.out.drew⟩) ?_; rintro r wa ⟨rfl, hwa⟩; refine ⟨_, rfl, ?_⟩; have hxa := Ex.trans (Ex.refl _).drew hwa
            refine hK.out _ _ ?r2_hS15 (fun hHeld15 => ?_)
            case r2_hS15 => exact FK.out _ hxa
            clear hK K hHeld
            try simp only [Act.put, List.setIfInBounds_toArray, List.set_cons_zero, List.set_cons_succ]
            refine tk 16 ?_; refine tk 17 ?_
            refine wpAnyH_done (by kernel_rfl) ?_ _
            go_wp2
            go_roundw
            case rel => exact ⟨q + 1, by omega, by go_num, HQ4.out.trans hxa, HFF.out⟩
            case measure => simp [intOf]; omega
        · obtain rfl : q = nl := by omega
          obtain ⟨q0, q1, q2, q3, q4, q5, q6, q7, q8⟩ := KQ.out.c9
          have jM := KQ.out.lt
          go_wp2
          go_ret
          exact ⟨ret_bool (machV_yes ⟨HOK.out, HFA.out, fun i x h => HALL.out i x (by have := getElem?_lt h; have := HNL.out; omega) h⟩).symm, HQ.out⟩

set_option maxHeartbeats 2000000 in
theorem l3Copy_c (t : TableD) (A : Option Addr) (c : Nat) (B : Option Addr) (d : Nat) (w : World) (hx : Rd w A t.buckets) (hy : Rd w B t.frames) (hn : t.buckets.length ≤ 1048576) (hm : t.frames.length ≤ 1048576) (hc : t.buckets.length ≤ c) (hd : t.frames.length ≤ d) (hc2 : c ≤ maxLen) (hd2 : d ≤ maxLen) :
    Calls Tryz.prog 82 #[.agg #[.slice A t.buckets.length c, .slice B t.frames.length d]] w fun r w' => ∃ A' c' B' d', r = .returned (.agg #[.slice A' t.buckets.length c', .slice B' t.frames.length d']) ∧ Fr 3 w' w.heap.size A' c' t.buckets ∧ Fr 45 w' w.heap.size B' d' t.frames ∧ Ex w w' := by
  have HX := zq hx
  have HY := zq hy
  clear hx hy
  obtain ⟨i0, hi, hz0, hz1, hz2⟩ := info_parts infoMInt
  obtain ⟨i1, gi, gz0, gz1, gz2⟩ := info_parts infoMFrame
  obtain ⟨xs, ys⟩ := t
  simp only at HX HY hn hm hc hd ⊢
  go_enter Tryz.func82, Tryz.ntmps82
  go_wp2_with fail
  obtain ⟨w0, hw0⟩ : ∃ w0 : World, w0 = ((w.alloc (.cells #[.slice A xs.length c, .slice B ys.length d] 26)).alloc (.cells #[.slice none 0 0, .slice none 0 0] 26)) := ⟨_, rfl⟩
  have E0 : Hid (Ex w w0) := zq (by rw [hw0]; exact ((Ex.refl w).alloc _).alloc _)
  have KC : Hid (Blk w0 w.heap.size 26 [.slice A xs.length c, .slice B ys.length d]) := zq (by rw [hw0]; exact (Blk.new _ _ _).alloc _)
  have KR : Hid (Blk w0 (w.heap.size + 1) 26 [.slice none 0 0, .slice none 0 0]) := zq (by rw [hw0]; exact Blk.new_at _ _ _ (by simp))
  have HX0 : Hid (Rd w0 A xs) := zq (HX.out.ex E0.out)
  have HY0 : Hid (Rd w0 B ys) := zq (HY.out.ex E0.out)
  have H63 : Hid (0 + xs.length ≤ maxLen) := zq (by simp [maxLen]; omega)
  have H64 : Hid (0 + ys.length ≤ maxLen) := zq (by simp [maxLen]; omega)
  have HBY : Hid ((0 + xs.length) * 8 ≤ 140737488355328) := zq (by omega)
  have HBZ : Hid ((0 + ys.length) * 40 ≤ 140737488355328) := zq (by omega)
  have HO : Hid (∀ (w1 : World) (a : Option Addr), Fr 3 w1 w0.heap.size a 0 ([] : List Int)) := zq (fun w1 a => Fr.none_ _ _ _ _)
  have HP : Hid (∀ (w1 : World) (a : Option Addr), Fr 45 w1 w0.heap.size a 0 ([] : List FrameD)) := zq (fun w1 a => Fr.none_ _ _ _ _)
  have HBG : Hid (∀ (w1 w2 : World) (a : Option Addr), Ex w0 w1 → w1.grownBy w2 (rowOf a 0) → Ex w0 w2) := zq (fun w1 w2 a h hg => h.grown hg (by rintro k hk; simp [rowOf] at hk))
  obtain ⟨gc, hgc⟩ : ∃ gc : Nat, gc = w.heap.size := ⟨_, rfl⟩
  rw [← hw0, ← hgc]
  rw [← hgc] at KC KR
  have HG := zq hgc
  have FK : Hid (∀ w', Ex w0 w' → (w'.cell? ⟨gc, 0, none⟩ = some (.slice A xs.length c) ∧ w'.cell? ⟨gc, 1, none⟩ = some (.slice B ys.length d))) := zq (fun w' h => (KC.out.ex h).c2)
  clear hw0 hgc HX HY
  go_region_held3 (fun w' => (w'.cell? ⟨gc, 0, none⟩ = some (.slice A xs.length c) ∧ w'.cell? ⟨gc, 1, none⟩ = some (.slice B ys.length d))) (first | (refine FK.out _ ?_; (repeat' (first | with_reducible exact Ex.refl _ | with_reducible exact hbb | with_reducible exact hba | with_reducible refine Ex.alloc ?_ _ | with_reducible refine Ex.drew ?_)); done) | go_keep) (first
    | (refine step_append_fr (α := Int) rfl _ _ 23 rfl 3 i0 _ 8 w0.heap.size Tryz.underlying23 hi hz0 hz1 hz2 rfl _ 0 0 [] rfl rfl (HO.out _ _) A c _ xs rfl rfl (HX0.out.ex (by with_reducible repeat' (first | exact Ex.refl _ | refine Ex.alloc ?_ _ | refine Ex.drew ?_))) H63.out HBY.out (Ex.size (by with_reducible repeat' (first | exact Ex.refl _ | refine Ex.alloc ?_ _ | refine Ex.drew ?_))) ?_; intro A2 c2 w2 ha; have hba := HBG.out _ _ _ (by with_reducible repeat' (first | exact Ex.refl _ | refine Ex.alloc ?_ _ | refine Ex.drew ?_)) ha.grown; have hr := Blk.ex KR.out hba; obtain ⟨hr0, hr1⟩ := hr.c2; have hrf := hr.frozen; have hrl := hr.lt; clear hr)
    | (refine step_append_fr (α := FrameD) rfl _ _ 24 rfl 45 i1 _ 40 w0.heap.size Tryz.underlying24 gi gz0 gz1 gz2 rfl _ 0 0 [] rfl rfl (HP.out _ _) B d _ ys rfl rfl (HY0.out.ex (by with_reducible repeat' (first | exact Ex.refl _ | exact hba | refine Ex.alloc ?_ _ | refine Ex.drew ?_))) H64.out HBZ.out (Ex.size (by with_reducible repeat' (first | exact Ex.refl _ | exact hba | refine Ex.alloc ?_ _ | refine Ex.drew ?_))) ?_; intro B2 d2 w4 hb; have hbb := HBG.out _ _ _ (by with_reducible repeat' (first | exact Ex.refl _ | exact hba | refine Ex.alloc ?_ _ | refine Ex.drew ?_)) hb.grown; clear hr0 hr1 hrf hrl; have hr := Blk.ex KR.out hbb; obtain ⟨hr0, hr1⟩ := hr.c2; have hrf := hr.frozen; have hrl := hr.lt; clear hr; obtain ⟨hk0, hk1⟩ := FK.out _ hbb; have hec : Ex w2 w4 := Ex.grown (a := w2) (by with_reducible repeat' (first | exact Ex.refl _ | refine Ex.alloc ?_ _ | refine Ex.drew ?_)) hb.grown (by rintro k hk; simp [rowOf] at hk)))
  all_goals
    rename_i hHeld
    clear hHeld hk0 hk1 hr0 hr1 hrf hrl
    simp only [List.nil_append] at ha hb
    try simp only [Nat.zero_add]
    have HFA := zq (ha.fr.ex hec)
    have HFB := zq hb.fr
    have HBB := zq hbb
    clear ha hb hba hbb hec
    have hr := Blk.set (Blk.set (Blk.ex KR.out HBB.out) 0 (.slice A2 xs.length c2)) 1 (.slice B2 ys.length d2)
    obtain ⟨hr0, hr1⟩ := Blk.c2 hr
    have hl := hr.lt
    clear hr
    have HL := zq KR.out.lt
    have HL2 := zq E0.out.size
    have hgl : w.heap.size ≤ gc + 1 := by have := HG.out; omega
    go_wp2
    exact bodyPost_ret (v := .agg #[.slice A2 xs.length c2, .slice B2 ys.length d2]) (by simp [results, Tryz.results82, go_sem, *]) rfl
      ⟨A2, c2, B2, d2, rfl, Fr.mono (B := w0.heap.size) (by repeat' (first | exact HFA.out | with_reducible refine Fr.set_below ?_ HL.out _)) HL2.out, Fr.mono (B := w0.heap.size) (by repeat' (first | exact HFB.out | with_reducible refine Fr.set_below ?_ HL.out _)) HL2.out, by repeat' (first | exact E0.out.trans HBB.out | with_reducible refine Ex.set ?_ hgl _)⟩

/-- The four slices are the call's own: they lie from block B on. -/
structure FrM (w : World) (B : Nat) (m : MachD) (a : MA) : Prop where
  b : Fr 3 w B a.b a.bc m.table.buckets
  f : Fr 45 w B a.f a.fc m.table.frames
  l : Fr 64 w B a.l a.lc m.cache.lines
  o : Fr 93 w B a.o a.oc m.tags.owns
section
variable {w w' : World} {B B' : Nat} {m : MachD} {a : MA}
theorem FrM.has (h : FrM w B m a) : HasM w m a := ⟨h.b.rd, h.f.rd, h.l.rd, h.o.rd⟩
theorem FrM.cap (h : FrM w B m a) : CapM m a := ⟨h.b.le, h.f.le, h.l.le, h.o.le⟩
theorem FrM.ex (h : FrM w B m a) (k : Ex w w') : FrM w' B m a := ⟨h.b.ex k, h.f.ex k, h.l.ex k, h.o.ex k⟩
theorem FrM.alloc (h : FrM w B m a) (o : Obj) : FrM (w.alloc o) B m a := h.ex ((Ex.refl w).alloc o)
theorem FrM.put (h : FrM w B m a) {g o : Nat} (hg : g < B) (v : Value) : FrM (w.setCell ⟨g, o, none⟩ v) B m a :=
  ⟨h.b.set_below hg v, h.f.set_below hg v, h.l.set_below hg v, h.o.set_below hg v⟩
theorem FrM.chg {lo hi : Nat} (h : FrM w B m a) (k : Chg lo hi w w') (hn : hi ≤ B) : FrM w' B m a :=
  ⟨h.b.chg k (l := B) (u := w.heap.size) h.b.row (by omega), h.f.chg k (l := B) (u := w.heap.size) h.f.row (by omega), h.l.chg k (l := B) (u := w.heap.size) h.l.row (by omega), h.o.chg k (l := B) (u := w.heap.size) h.o.row (by omega)⟩
theorem FrM.mono (h : FrM w B m a) (hB : B' ≤ B) : FrM w B' m a := ⟨h.b.mono hB, h.f.mono hB, h.l.mono hB, h.o.mono hB⟩
end


def fitsB (x : LineD) (tag page : Int) : Bool := x.valid && ((x.page == page) && ((x.tag == tag) || (x.tag == -1)))
theorem fits_split (x : LineD) (tag page : Int) :
    (x.valid = false ∧ fitsB x tag page = false) ∨ (x.valid = true ∧ (x.page == page) = false ∧ fitsB x tag page = false) ∨ (x.valid = true ∧ (x.page == page) = true ∧ (x.tag == tag) = true ∧ fitsB x tag page = true) ∨
    (x.valid = true ∧ (x.page == page) = true ∧ (x.tag == tag) = false ∧ (x.tag == -1) = true ∧ fitsB x tag page = true) ∨ (x.valid = true ∧ (x.page == page) = true ∧ (x.tag == tag) = false ∧ (x.tag == -1) = false ∧ fitsB x tag page = false) := by
  unfold fitsB
  cases x.valid <;> cases (x.page == page) <;> cases (x.tag == tag) <;> cases (x.tag == -1) <;> simp

def placeOf (xs : List LineD) (tag page : Int) : Int := firstOf (fun x => fitsB x tag page) xs

set_option maxHeartbeats 1000000 in
theorem l4Fits_c (x : LineD) (tag page : Int) (w : World) : Calls Tryz.prog 112 #[.agg #[.bool x.valid, .int .i64 x.tag, .int .i64 x.page, .int .i64 x.frame, .int .i64 x.rights, .bool x.wired], .int .i64 tag, .int .i64 page] w fun r w' => r = .returned (.bool (fitsB x tag page)) ∧ Ex w w' := by
  rcases fits_split x tag page with ⟨h1, e⟩ | ⟨h1, h2, e⟩ | ⟨h1, h2, h3, e⟩ | ⟨h1, h2, h3, h4, e⟩ | ⟨h1, h2, h3, h4, e⟩
  all_goals
    rw [e]
    clear e
    go_enter Tryz.func112, Tryz.ntmps112
    go_wp2
    go_ret
    exact ⟨rfl, (Ex.refl _).alloc _⟩

set_option maxHeartbeats 1000000 in
theorem l4Find_c (t : CacheD) (tag page : Int) (A : Option Addr) (c : Nat) (w : World) (hx : Rd w A t.lines) (hn : t.lines.length ≤ 1048576) :
    Calls Tryz.prog 104 #[.agg #[.slice A t.lines.length c, .int .i64 t.hand], .int .i64 tag, .int .i64 page] w fun r w' => r = .returned (.int .i64 (placeOf t.lines tag page)) ∧ Ex w w' := by
  obtain ⟨xs, hand⟩ := t
  simp only at hx hn ⊢
  have B1 := zq (fun k x => @firstOf_at _ (fun x => fitsB x tag page) xs k x)
  have B2 := zq (@firstOf_none _ (fun x => fitsB x tag page) xs)
  unfold placeOf
  generalize firstOf (fun x => fitsB x tag page) xs = res at *
  obtain ⟨n, hn1⟩ : ∃ n, n = xs.length := ⟨_, rfl⟩
  have HN := zq hn1
  rw [← hn1] at B2 hn ⊢
  have HX := zq hx
  clear hn1 hx
  go_enter Tryz.func104, Tryz.ntmps104
  go_wp2
  obtain ⟨w0, hw0⟩ : ∃ w0 : World, w0 = w.alloc (.cells #[.slice A n c, .int .i64 hand] 29) := ⟨_, rfl⟩
  obtain ⟨gb, hgb⟩ : ∃ gb : Nat, gb = w.heap.size := ⟨_, rfl⟩
  have K0 : Hid (Blk w0 gb 29 [.slice A n c, .int .i64 hand]) := zq (by rw [hw0, hgb]; exact Blk.new w _ _)
  have E0 : Hid (Ex w w0) := zq (by rw [hw0]; exact (Ex.refl w).alloc _)
  rw [← hw0, ← hgb]
  clear hw0 hgb
  go_loopw [7] (fun i wr => ∃ k : Nat, k ≤ n ∧ i = .int .i64 k ∧ Ex w0 wr ∧ ∀ (j : Nat) (y : LineD), j < k → xs[j]? = some y → fitsB y tag page = false) (fun i _ => n - (intOf i).toNat)
  case atStart => exact ⟨0, Nat.zero_le _, rfl, Ex.refl _, fun j y h => by omega⟩
  case round =>
    obtain ⟨k, hk, rfl, hbel, hcl⟩ := hrel
    have HB := zq hbel
    have HCL := zq hcl
    clear hbel hcl
    obtain ⟨q0, q1⟩ := (K0.out.ex HB.out).c2
    have lb := (K0.out.ex HB.out).lt
    by_cases hlt : k < n
    · obtain ⟨b1, o1, x, rfl, hb1, hxk, h0, h1, h2, h3, h4, h5⟩ := Rd.line ((HX.out.ex E0.out).ex HB.out) (k := k) (by have := HN.out; omega)
      have HXK := zq hxk
      clear hxk
      go_wp2_with fail
      refine (l4Fits_c x tag page _).mono ?_
      rintro r w2 ⟨rfl, hb2⟩
      have HB2 := zq hb2
      clear hb2 h0 h1 h2 h3 h4 h5
      cases hv : fitsB x tag page
      · have HV := zq hv
        go_wp2
        go_roundw
        case rel => exact ⟨k + 1, by omega, by go_num, HB.out.trans HB2.out, fun j z hj hz => by
          by_cases e : j = k
          · subst e
            have := HXK.out
            rw [this] at hz
            injection hz with hz
            rw [← hz]; exact HV.out
          · exact HCL.out j z (by omega) hz⟩
        case measure => simp [intOf]; omega
      · obtain rfl : res = (k : Int) := B1.out k x HXK.out hv HCL.out
        go_wp2
        go_ret
        exact ⟨rfl, (E0.out.trans HB.out).trans HB2.out⟩
    · obtain rfl : k = n := by omega
      obtain rfl : res = -1 := B2.out HCL.out
      go_wp2
      go_ret
      exact ⟨rfl, E0.out.trans HB.out⟩

def findLine (t : CacheD) (tag page : Int) : Int × Bool :=
  if cacheV t then if tagB tag then if inB page 256 then if 0 ≤ placeOf t.lines tag page then (placeOf t.lines tag page, true) else (0, false) else (0, false) else (0, false) else (0, false)

set_option maxHeartbeats 1000000 in
theorem findLineS_c (t : CacheD) (tag page : Int) (A : Option Addr) (c : Nat) (w : World) (hx : Rd w A t.lines) (hn : t.lines.length ≤ 1048576) (hcap : t.lines.length ≤ c) :
    Calls Tryz.prog 119 #[.agg #[.slice A t.lines.length c, .int .i64 t.hand], .int .i64 tag, .int .i64 page] w fun r w' => r = .returned (.tuple #[.int .i64 (findLine t tag page).1, .bool (findLine t tag page).2]) ∧ Ex w w' := by
  have HX := zq hx
  clear hx
  unfold findLine
  cases h1 : cacheV t
  · go_enter Tryz.func119, Tryz.ntmps119
    go_wp2_with fail
    refine (cacheValidS_c t A c _ (HX.out.alloc _) hn hcap).mono ?_; rintro r w1 ⟨rfl, hb1⟩
    have s1 : w.heap.size ≤ w1.heap.size := by have := hb1.size; first | omega | (simp at this; omega)
    have E1 : Hid (Ex w w1) := zq (by first | exact (Ex.refl w).trans hb1 | exact ((Ex.refl w).alloc _).trans hb1 | exact (((Ex.refl w).alloc _).alloc _).trans hb1 | exact ((((Ex.refl w).alloc _).alloc _).alloc _).trans hb1 | exact (((((Ex.refl w).alloc _).alloc _).alloc _).alloc _).trans hb1 | exact ((((((Ex.refl w).alloc _).alloc _).alloc _).alloc _).alloc _).trans hb1 | exact (((((((Ex.refl w).alloc _).alloc _).alloc _).alloc _).alloc _).alloc _).trans hb1)
    have KX : Hid (Blk w1 (w.heap.size) 29 [.slice A t.lines.length c, .int .i64 t.hand]) := zq (by first | exact (Blk.new_at _ _ _ (by simp)).ex hb1 | exact ((Blk.new_at _ _ _ (by simp)).alloc _).ex hb1 | exact (((Blk.new_at _ _ _ (by simp)).alloc _).alloc _).ex hb1 | exact ((((Blk.new_at _ _ _ (by simp)).alloc _).alloc _).alloc _).ex hb1 | exact (((((Blk.new_at _ _ _ (by simp)).alloc _).alloc _).alloc _).alloc _).ex hb1)
    obtain ⟨qX0, qX1⟩ := KX.out.c2
    have lX := KX.out.lt
    have HB1 := zq hb1; clear hb1
    rw [h1]
    go_wp2
    go_ret2
    exact ⟨rfl, E1.out⟩
  cases h2 : tagB tag
  · go_enter Tryz.func119, Tryz.ntmps119
    go_wp2_with fail
    refine (cacheValidS_c t A c _ (HX.out.alloc _) hn hcap).mono ?_; rintro r w1 ⟨rfl, hb1⟩
    have s1 : w.heap.size ≤ w1.heap.size := by have := hb1.size; first | omega | (simp at this; omega)
    have E1 : Hid (Ex w w1) := zq (by first | exact (Ex.refl w).trans hb1 | exact ((Ex.refl w).alloc _).trans hb1 | exact (((Ex.refl w).alloc _).alloc _).trans hb1 | exact ((((Ex.refl w).alloc _).alloc _).alloc _).trans hb1 | exact (((((Ex.refl w).alloc _).alloc _).alloc _).alloc _).trans hb1 | exact ((((((Ex.refl w).alloc _).alloc _).alloc _).alloc _).alloc _).trans hb1 | exact (((((((Ex.refl w).alloc _).alloc _).alloc _).alloc _).alloc _).alloc _).trans hb1)
    have KX : Hid (Blk w1 (w.heap.size) 29 [.slice A t.lines.length c, .int .i64 t.hand]) := zq (by first | exact (Blk.new_at _ _ _ (by simp)).ex hb1 | exact ((Blk.new_at _ _ _ (by simp)).alloc _).ex hb1 | exact (((Blk.new_at _ _ _ (by simp)).alloc _).alloc _).ex hb1 | exact ((((Blk.new_at _ _ _ (by simp)).alloc _).alloc _).alloc _).ex hb1 | exact (((((Blk.new_at _ _ _ (by simp)).alloc _).alloc _).alloc _).alloc _).ex hb1)
    obtain ⟨qX0, qX1⟩ := KX.out.c2
    have lX := KX.out.lt
    have HB1 := zq hb1; clear hb1
    rw [h1]
    go_wp2_with fail
    refine (l4Tag_c tag _).mono ?_
    rintro r w2 ⟨rfl, rfl⟩
    rw [h2]
    go_wp2
    go_ret2
    exact ⟨rfl, E1.out⟩
  cases h3 : inB page 256
  · go_enter Tryz.func119, Tryz.ntmps119
    go_wp2_with fail
    refine (cacheValidS_c t A c _ (HX.out.alloc _) hn hcap).mono ?_; rintro r w1 ⟨rfl, hb1⟩
    have s1 : w.heap.size ≤ w1.heap.size := by have := hb1.size; first | omega | (simp at this; omega)
    have E1 : Hid (Ex w w1) := zq (by first | exact (Ex.refl w).trans hb1 | exact ((Ex.refl w).alloc _).trans hb1 | exact (((Ex.refl w).alloc _).alloc _).trans hb1 | exact ((((Ex.refl w).alloc _).alloc _).alloc _).trans hb1 | exact (((((Ex.refl w).alloc _).alloc _).alloc _).alloc _).trans hb1 | exact ((((((Ex.refl w).alloc _).alloc _).alloc _).alloc _).alloc _).trans hb1 | exact (((((((Ex.refl w).alloc _).alloc _).alloc _).alloc _).alloc _).alloc _).trans hb1)
    have KX : Hid (Blk w1 (w.heap.size) 29 [.slice A t.lines.length c, .int .i64 t.hand]) := zq (by first | exact (Blk.new_at _ _ _ (by simp)).ex hb1 | exact ((Blk.new_at _ _ _ (by simp)).alloc _).ex hb1 | exact (((Blk.new_at _ _ _ (by simp)).alloc _).alloc _).ex hb1 | exact ((((Blk.new_at _ _ _ (by simp)).alloc _).alloc _).alloc _).ex hb1 | exact (((((Blk.new_at _ _ _ (by simp)).alloc _).alloc _).alloc _).alloc _).ex hb1)
    obtain ⟨qX0, qX1⟩ := KX.out.c2
    have lX := KX.out.lt
    have HB1 := zq hb1; clear hb1
    rw [h1]
    go_wp2_with fail
    refine (l4Tag_c tag _).mono ?_
    rintro r w2 ⟨rfl, rfl⟩
    rw [h2]
    go_wp2_with fail
    refine (l1Page_c page _).mono ?_
    rintro r w2 ⟨rfl, rfl⟩
    rw [h3]
    go_wp2
    go_ret2
    exact ⟨rfl, E1.out⟩
  by_cases h4 : placeOf t.lines tag page < 0
  · have h4' : ¬ 0 ≤ placeOf t.lines tag page := by omega
    go_enter Tryz.func119, Tryz.ntmps119
    go_wp2_with fail
    refine (cacheValidS_c t A c _ (HX.out.alloc _) hn hcap).mono ?_; rintro r w1 ⟨rfl, hb1⟩
    have s1 : w.heap.size ≤ w1.heap.size := by have := hb1.size; first | omega | (simp at this; omega)
    have E1 : Hid (Ex w w1) := zq (by first | exact (Ex.refl w).trans hb1 | exact ((Ex.refl w).alloc _).trans hb1 | exact (((Ex.refl w).alloc _).alloc _).trans hb1 | exact ((((Ex.refl w).alloc _).alloc _).alloc _).trans hb1 | exact (((((Ex.refl w).alloc _).alloc _).alloc _).alloc _).trans hb1 | exact ((((((Ex.refl w).alloc _).alloc _).alloc _).alloc _).alloc _).trans hb1 | exact (((((((Ex.refl w).alloc _).alloc _).alloc _).alloc _).alloc _).alloc _).trans hb1)
    have KX : Hid (Blk w1 (w.heap.size) 29 [.slice A t.lines.length c, .int .i64 t.hand]) := zq (by first | exact (Blk.new_at _ _ _ (by simp)).ex hb1 | exact ((Blk.new_at _ _ _ (by simp)).alloc _).ex hb1 | exact (((Blk.new_at _ _ _ (by simp)).alloc _).alloc _).ex hb1 | exact ((((Blk.new_at _ _ _ (by simp)).alloc _).alloc _).alloc _).ex hb1 | exact (((((Blk.new_at _ _ _ (by simp)).alloc _).alloc _).alloc _).alloc _).ex hb1)
    obtain ⟨qX0, qX1⟩ := KX.out.c2
    have lX := KX.out.lt
    have HB1 := zq hb1; clear hb1
    rw [h1]
    go_wp2_with fail
    refine (l4Tag_c tag _).mono ?_
    rintro r w2 ⟨rfl, rfl⟩
    rw [h2]
    go_wp2_with fail
    refine (l1Page_c page _).mono ?_
    rintro r w2 ⟨rfl, rfl⟩
    rw [h3]
    go_wp2_with fail
    refine (l4Find_c t tag page A c _ (HX.out.ex E1.out) hn).mono ?_; rintro r w2 ⟨rfl, hb2⟩
    have s2 : w1.heap.size ≤ w2.heap.size := by have := hb2.size; first | omega | (simp at this; omega)
    have E2 : Hid (Ex w w2) := zq (by first | exact E1.out.trans hb2 | exact (E1.out.alloc _).trans hb2 | exact ((E1.out.alloc _).alloc _).trans hb2 | exact (((E1.out.alloc _).alloc _).alloc _).trans hb2 | exact ((((E1.out.alloc _).alloc _).alloc _).alloc _).trans hb2 | exact (((((E1.out.alloc _).alloc _).alloc _).alloc _).alloc _).trans hb2 | exact ((((((E1.out.alloc _).alloc _).alloc _).alloc _).alloc _).alloc _).trans hb2)
    clear qX0 qX1 lX
    replace KX : Hid (Blk w2 (w.heap.size) 29 [.slice A t.lines.length c, .int .i64 t.hand]) := zq (by first | exact KX.out.ex hb2 | exact (KX.out.alloc _).ex hb2 | exact ((KX.out.alloc _).alloc _).ex hb2 | exact (((KX.out.alloc _).alloc _).alloc _).ex hb2 | exact ((((KX.out.alloc _).alloc _).alloc _).alloc _).ex hb2)
    obtain ⟨qX0, qX1⟩ := KX.out.c2
    have lX := KX.out.lt
    have HB2 := zq hb2; clear hb2
    go_wp2
    go_ret2
    exact ⟨by simp [*], E2.out⟩
  · have h4' : 0 ≤ placeOf t.lines tag page := by omega
    go_enter Tryz.func119, Tryz.ntmps119
    go_wp2_with fail
    refine (cacheValidS_c t A c _ (HX.out.alloc _) hn hcap).mono ?_; rintro r w1 ⟨rfl, hb1⟩
    have s1 : w.heap.size ≤ w1.heap.size := by have := hb1.size; first | omega | (simp at this; omega)
    have E1 : Hid (Ex w w1) := zq (by first | exact (Ex.refl w).trans hb1 | exact ((Ex.refl w).alloc _).trans hb1 | exact (((Ex.refl w).alloc _).alloc _).trans hb1 | exact ((((Ex.refl w).alloc _).alloc _).alloc _).trans hb1 | exact (((((Ex.refl w).alloc _).alloc _).alloc _).alloc _).trans hb1 | exact ((((((Ex.refl w).alloc _).alloc _).alloc _).alloc _).alloc _).trans hb1 | exact (((((((Ex.refl w).alloc _).alloc _).alloc _).alloc _).alloc _).alloc _).trans hb1)
    have KX : Hid (Blk w1 (w.heap.size) 29 [.slice A t.lines.length c, .int .i64 t.hand]) := zq (by first | exact (Blk.new_at _ _ _ (by simp)).ex hb1 | exact ((Blk.new_at _ _ _ (by simp)).alloc _).ex hb1 | exact (((Blk.new_at _ _ _ (by simp)).alloc _).alloc _).ex hb1 | exact ((((Blk.new_at _ _ _ (by simp)).alloc _).alloc _).alloc _).ex hb1 | exact (((((Blk.new_at _ _ _ (by simp)).alloc _).alloc _).alloc _).alloc _).ex hb1)
    obtain ⟨qX0, qX1⟩ := KX.out.c2
    have lX := KX.out.lt
    have HB1 := zq hb1; clear hb1
    rw [h1]
    go_wp2_with fail
    refine (l4Tag_c tag _).mono ?_
    rintro r w2 ⟨rfl, rfl⟩
    rw [h2]
    go_wp2_with fail
    refine (l1Page_c page _).mono ?_
    rintro r w2 ⟨rfl, rfl⟩
    rw [h3]
    go_wp2_with fail
    refine (l4Find_c t tag page A c _ (HX.out.ex E1.out) hn).mono ?_; rintro r w2 ⟨rfl, hb2⟩
    have s2 : w1.heap.size ≤ w2.heap.size := by have := hb2.size; first | omega | (simp at this; omega)
    have E2 : Hid (Ex w w2) := zq (by first | exact E1.out.trans hb2 | exact (E1.out.alloc _).trans hb2 | exact ((E1.out.alloc _).alloc _).trans hb2 | exact (((E1.out.alloc _).alloc _).alloc _).trans hb2 | exact ((((E1.out.alloc _).alloc _).alloc _).alloc _).trans hb2 | exact (((((E1.out.alloc _).alloc _).alloc _).alloc _).alloc _).trans hb2 | exact ((((((E1.out.alloc _).alloc _).alloc _).alloc _).alloc _).alloc _).trans hb2)
    clear qX0 qX1 lX
    replace KX : Hid (Blk w2 (w.heap.size) 29 [.slice A t.lines.length c, .int .i64 t.hand]) := zq (by first | exact KX.out.ex hb2 | exact (KX.out.alloc _).ex hb2 | exact ((KX.out.alloc _).alloc _).ex hb2 | exact (((KX.out.alloc _).alloc _).alloc _).ex hb2 | exact ((((KX.out.alloc _).alloc _).alloc _).alloc _).ex hb2)
    obtain ⟨qX0, qX1⟩ := KX.out.c2
    have lX := KX.out.lt
    have HB2 := zq hb2; clear hb2
    go_wp2
    go_ret2
    exact ⟨by simp [*], E2.out⟩

/-- How far the hand turns from h, in steps of one round n, until p holds. -/
def turnOf (p : Nat → Bool) (n h : Nat) : Nat := ((List.range n).findIdx? fun d => p ((h + d) % n)).getD 0
theorem turnOf_spec {p : Nat → Bool} {n h k : Nat} (hh : h < n) (hk : k < n) (hp : p k = true) :
    turnOf p n h < n ∧ p ((h + turnOf p n h) % n) = true ∧ ∀ d, d < turnOf p n h → p ((h + d) % n) = false := by
  unfold turnOf
  cases e : (List.range n).findIdx? fun d => p ((h + d) % n) with
  | none =>
    exfalso
    rw [List.findIdx?_eq_none_iff] at e
    by_cases hkh : h ≤ k
    · have := e (k - h) (List.mem_range.2 (by omega))
      rw [show h + (k - h) = k by omega, Nat.mod_eq_of_lt hk, hp] at this
      cases this
    · have := e (k + n - h) (List.mem_range.2 (by omega))
      rw [show h + (k + n - h) = k + n by omega, Nat.add_mod_right, Nat.mod_eq_of_lt hk, hp] at this
      cases this
  | some d =>
    rw [List.findIdx?_eq_some_iff_getElem] at e
    obtain ⟨hd, h1, h2⟩ := e
    simp only [List.length_range] at hd
    simp only [List.getElem_range] at h1 h2
    refine ⟨hd, h1, fun j hj => ?_⟩
    have := h2 j hj
    simpa using this
/-- How many steps the hand has turned, read from where it stands. -/
theorem turn_back {n h d : Nat} (hh : h < n) (hd : d < n) : ((h + d) % n + n - h) % n = d := by
  by_cases e : h + d < n
  · rw [Nat.mod_eq_of_lt e, show h + d + n - h = d + n by omega, Nat.add_mod_right, Nat.mod_eq_of_lt hd]
  · have e1 : (h + d) % n = h + d - n := by rw [Nat.mod_eq_sub_mod (by omega), Nat.mod_eq_of_lt (by omega)]
    rw [e1, show h + d - n + n - h = d by omega, Nat.mod_eq_of_lt hd]

theorem turn_next {m h d k : Nat} (hm : m = (h + d) % k) : ((m : Int) + 1) % (k : Int) = (((h + (d + 1)) % k : Nat) : Int) := by
  have : (m + 1) % k = (h + (d + 1)) % k := by rw [hm, Nat.mod_add_mod]; rfl
  exact_mod_cast this

def freeAt (xs : List LineD) : Int := firstOf (fun x => !x.valid) xs
def looseAt (t : CacheD) : Nat := (t.hand.toNat + turnOf (fun k => !(t.lines.getD k noLine).wired) t.lines.length t.hand.toNat) % t.lines.length
def victimAt (t : CacheD) : Int := if 0 ≤ freeAt t.lines then freeAt t.lines else looseAt t
theorem victim_facts {t : CacheD} (hv : cacheV t = true) : ∃ h d0 : Nat, t.hand = (h : Int) ∧ h < t.lines.length ∧ t.lines.length ≤ 8 ∧ d0 < t.lines.length ∧
    (∀ (k : Nat) (x : LineD), t.lines[k]? = some x → x.valid = false → (∀ (j : Nat) (y : LineD), j < k → t.lines[j]? = some y → y.valid = true) → victimAt t = (k : Int)) ∧
    ((∀ (j : Nat) (y : LineD), j < t.lines.length → t.lines[j]? = some y → y.valid = true) → victimAt t = (((h + d0) % t.lines.length : Nat) : Int)) ∧
    (∀ (d : Nat) (x : LineD), d < d0 → t.lines[(h + d) % t.lines.length]? = some x → x.wired = true) ∧
    (∀ x : LineD, t.lines[(h + d0) % t.lines.length]? = some x → x.wired = false) := by
  obtain ⟨⟨h1, h2, h3, h4⟩, -, hl⟩ := (cacheV_iff t).1 hv
  unfold looseUp at hl
  rw [List.take_length, List.any_eq_true] at hl
  obtain ⟨x, hx, hw⟩ := hl
  obtain ⟨k, hk, rfl⟩ := List.getElem_of_mem hx
  obtain ⟨a1, a2, a3⟩ := turnOf_spec (p := fun k => !(t.lines.getD k noLine).wired) (n := t.lines.length) (h := t.hand.toNat) (k := k) (by omega) hk (by rw [getD_of (List.getElem?_eq_getElem hk)]; exact hw)
  refine ⟨t.hand.toNat, turnOf (fun k => !(t.lines.getD k noLine).wired) t.lines.length t.hand.toNat, by omega, by omega, by omega, a1, ?_, ?_, ?_, ?_⟩
  · intro k x hx hf hb
    have : freeAt t.lines = (k : Int) := firstOf_at hx (by simp [hf]) (fun j y hj hy => by simp [hb j y hj hy])
    unfold victimAt; rw [this, if_pos (by omega)]
  · intro hb
    have : freeAt t.lines = -1 := firstOf_none (fun j y hj hy => by simp [hb j y hj hy])
    unfold victimAt; rw [this, if_neg (by omega)]; rfl
  · intro d x hd hx
    have := a3 d hd
    rw [getD_of hx] at this
    simpa using this
  · intro x hx
    rw [getD_of hx] at a2
    simpa using a2

set_option maxHeartbeats 2000000 in
theorem l4Victim_c (t : CacheD) (A : Option Addr) (c : Nat) (w : World) (hx : Rd w A t.lines) (hc : t.lines.length ≤ c) (hv : cacheV t = true) :
    Calls Tryz.prog 118 #[.agg #[.slice A t.lines.length c, .int .i64 t.hand]] w fun r w' => r = .returned (.int .i64 (victimAt t)) ∧ Ex w w' := by
  obtain ⟨h, d0, e1, e2, e3, e4, b1, b2, b3, b4⟩ := victim_facts hv
  generalize victimAt t = res at *
  clear hv
  obtain ⟨xs, hand⟩ := t
  simp only at e1 e2 e3 e4 b1 b2 b3 b4 hx hc ⊢
  subst e1
  obtain ⟨n, hn1⟩ : ∃ n, n = xs.length := ⟨_, rfl⟩
  have HN := zq hn1
  rw [← hn1] at e2 e3 e4 b2 b3 b4 hc ⊢
  have HX := zq hx
  have B1 := zq b1
  have B2 := zq b2
  have B3 := zq b3
  have B4 := zq b4
  clear hn1 hx b1 b2 b3 b4
  go_enter Tryz.func118, Tryz.ntmps118
  go_wp2
  obtain ⟨w0, hw0⟩ : ∃ w0 : World, w0 = w.alloc (.cells #[.slice A n c, .int .i64 h] 29) := ⟨_, rfl⟩
  obtain ⟨gb, hgb⟩ : ∃ gb : Nat, gb = w.heap.size := ⟨_, rfl⟩
  have K0 : Hid (Blk w0 gb 29 [.slice A n c, .int .i64 h]) := zq (by rw [hw0, hgb]; exact Blk.new w _ _)
  have E0 : Hid (Ex w w0) := zq (by rw [hw0]; exact (Ex.refl w).alloc _)
  rw [← hw0, ← hgb]
  clear hw0 hgb
  go_loopw [3] (fun i wr => ∃ k : Nat, k ≤ n ∧ i = .int .i64 k ∧ Ex w0 wr ∧ ∀ (j : Nat) (y : LineD), j < k → xs[j]? = some y → y.valid = true) (fun i _ => n - (intOf i).toNat)
  case atStart => exact ⟨0, Nat.zero_le _, rfl, Ex.refl _, fun j y h => by omega⟩
  case round =>
    obtain ⟨k, hk, rfl, hbel, hcl⟩ := hrel
    have HB := zq hbel
    have HCL := zq hcl
    clear hbel hcl
    obtain ⟨q0, q1⟩ := (K0.out.ex HB.out).c2
    have lb := (K0.out.ex HB.out).lt
    by_cases hlt : k < n
    · obtain ⟨a1, o1, x, rfl, hb1, hxk, h0, h1, h2, h3, h4, h5⟩ := Rd.line ((HX.out.ex E0.out).ex HB.out) (k := k) (by have := HN.out; omega)
      have HXK := zq hxk
      clear hxk
      cases hv : x.valid
      · obtain rfl : res = (k : Int) := B1.out k x HXK.out hv HCL.out
        rw [hv] at h0
        go_wp2
        go_ret
        exact ⟨rfl, E0.out.trans HB.out⟩
      · have HV := zq hv
        rw [hv] at h0
        go_wp2
        go_roundw
        case rel => exact ⟨k + 1, by omega, by go_num, HB.out, fun j z hj hz => by
          by_cases e : j = k
          · subst e
            have := HXK.out
            rw [this] at hz
            injection hz with hz
            rw [← hz]; exact HV.out
          · exact HCL.out j z (by omega) hz⟩
        case measure => simp [intOf]; omega
    · obtain rfl : k = n := by omega
      obtain rfl : res = _ := B2.out HCL.out
      go_wp2
      have HE : Hid (Ex w wr) := zq (E0.out.trans HB.out)
      have KR : Hid (Blk wr gb 29 [.slice A k c, .int .i64 h]) := zq (K0.out.ex HB.out)
      have HXR : Hid (Rd wr A xs) := zq (HX.out.ex HE.out)
      clear HCL q0 q1 lb HX K0 hlt hk
      go_loopw [4] (fun a wi => ∃ d : Nat, d ≤ d0 ∧ a = .int .i64 (((h + d) % k : Nat) : Int) ∧ Ex wr wi) (fun a _ => d0 - (((intOf a).toNat + k - h) % k))
      case atStart => exact ⟨0, by omega, by rw [Nat.add_zero, Nat.mod_eq_of_lt e2], Ex.refl _⟩
      case round =>
        obtain ⟨d, hd, rfl, hbel⟩ := hrel
        have HBI := zq hbel
        clear hbel
        obtain ⟨q0, q1⟩ := (KR.out.ex HBI.out).c2
        have lb := (KR.out.ex HBI.out).lt
        obtain ⟨m, hm⟩ : ∃ m, m = (h + d) % k := ⟨_, rfl⟩
        have hmk : m < k := by rw [hm]; exact Nat.mod_lt _ (by omega)
        have HM := zq hm
        rw [← hm]
        clear hm
        obtain ⟨a1, o1, x, rfl, hb1, hxk, h0, h1, h2, h3, h4, h5⟩ := Rd.line (HXR.out.ex HBI.out) (k := m) (by have := HN.out; omega)
        have HXK := zq hxk
        clear hxk h0 h1 h2 h3 h4
        have hm0 : ¬ ((m : Int) < 0) := by omega
        by_cases hdd : d = d0
        · subst hdd
          have hw : x.wired = false := B4.out x (by rw [← HM.out]; exact HXK.out)
          rw [hw] at h5
          go_wp2
          go_ret
          exact ⟨ret_int (by rw [HM.out]; simp), HE.out.trans HBI.out⟩
        · have hw : x.wired = true := B3.out d x (by omega) (by rw [← HM.out]; exact HXK.out)
          rw [hw] at h5
          have hk0 : ¬ ((k : Int) = 0) := by omega
          have HN1 := zq (turn_next HM.out)
          have HT1 : Hid ((m + k - h) % k = d) := zq (by rw [HM.out]; exact turn_back e2 (by omega))
          have HT2 : Hid (((h + (d + 1)) % k + k - h) % k = d + 1) := zq (turn_back e2 (by omega))
          go_wp2
          go_roundw
          case rel => exact ⟨d + 1, by omega, congrArg (Value.int .i64) HN1.out, HBI.out⟩
          case measure =>
            show d0 - ((((m : Int) + 1) % (k : Int)).toNat + k - h) % k < d0 - ((m : Int).toNat + k - h) % k
            rw [HN1.out, Int.toNat_natCast, Int.toNat_natCast, HT1.out, HT2.out]
            omega


set_option maxHeartbeats 2000000 in
theorem l4Copy_c (t : CacheD) (A : Option Addr) (c : Nat) (w : World) (hx : Rd w A t.lines) (hn : t.lines.length ≤ 1048576) (hc : t.lines.length ≤ c) (hc2 : c ≤ maxLen) :
    Calls Tryz.prog 83 #[.agg #[.slice A t.lines.length c, .int .i64 t.hand]] w fun r w' => ∃ A' c', r = .returned (.agg #[.slice A' t.lines.length c', .int .i64 t.hand]) ∧ Fr 64 w' w.heap.size A' c' t.lines ∧ Ex w w' := by
  have HX := zq hx
  clear hx
  obtain ⟨i0, hi, hz0, hz1, hz2⟩ := info_parts infoLine
  obtain ⟨xs, hand⟩ := t
  simp only at HX hn hc ⊢
  have HX' := HX.out
  by_cases h0 : xs.length = 0
  · obtain rfl : xs = [] := List.eq_nil_of_length_eq_zero h0
    cases A with
    | none =>
      go_enter Tryz.func83, Tryz.ntmps83
      go_wp2_with fail
      go_region
      go_wp2
      exact bodyPost_ret (v := .agg #[.slice (some ⟨w.heap.size + 1 + 1, 0, none⟩) 0 0, .int .i64 hand]) (by simp [results, Tryz.results83, go_sem]) rfl
        ⟨some ⟨w.heap.size + 1 + 1, 0, none⟩, 0, rfl, ⟨Nat.le_refl _, Nat.zero_le _, .inl rfl⟩, ((((Ex.refl w).alloc _).alloc _).alloc _).drew⟩
    | some ad =>
      go_enter Tryz.func83, Tryz.ntmps83
      go_wp2_with fail
      go_region
      go_wp2
      exact bodyPost_ret (v := .agg #[.slice (some ⟨w.heap.size + 1 + 1, 0, none⟩) 0 0, .int .i64 hand]) (by simp [results, Tryz.results83, go_sem]) rfl
        ⟨some ⟨w.heap.size + 1 + 1, 0, none⟩, 0, rfl, ⟨Nat.le_refl _, Nat.zero_le _, .inl rfl⟩, ((((Ex.refl w).alloc _).alloc _).alloc _).drew⟩
  · obtain ⟨b, off, e, hb, hcs⟩ := HX.out (by omega)
    subst e
    clear HX' hb hcs
    go_enter Tryz.func83, Tryz.ntmps83
    go_wp2_with fail
    obtain ⟨w0, hw0⟩ : ∃ w0 : World, w0 = ((w.alloc (.cells #[.slice (some ⟨b, off, none⟩) xs.length c, .int .i64 hand] 29)).alloc (.cells #[.slice none 0 0, .int .i64 0] 29)) := ⟨_, rfl⟩
    have E0 : Hid (Ex w w0) := zq (by rw [hw0]; exact ((Ex.refl w).alloc _).alloc _)
    have KC : Hid (Blk w0 w.heap.size 29 [.slice (some ⟨b, off, none⟩) xs.length c, .int .i64 hand]) := zq (by rw [hw0]; exact (Blk.new _ _ _).alloc _)
    have KR : Hid (Blk w0 (w.heap.size + 1) 29 [.slice none 0 0, .int .i64 0]) := zq (by rw [hw0]; exact Blk.new_at _ _ _ (by simp))
    have HX0 : Hid (Rd w0 (some ⟨b, off, none⟩) xs) := zq (HX.out.ex E0.out)
    have hcell : Hid (∀ (w' : World), Ex w0 w' → ∀ j u, (flat xs)[j]? = some u → w'.cell? ((⟨b, off, none⟩ : Addr).add j) = some u) := zq (by
      intro w' hw j u hu
      have hlt := getElem?_lt hu
      rw [flat_length] at hlt
      obtain ⟨b', o', e, hb, hcs⟩ := (HX0.out.ex hw) (by omega)
      injection e with e
      injection e with e1 e2
      subst e1 e2
      have := hcs j u hu
      by_cases hj : j = 0
      · subst hj; simpa [Addr.add] using this
      · simpa [Addr.add, hj] using this)
    have H63 : Hid (0 + xs.length ≤ maxLen) := zq (by simp [maxLen]; omega)
    have HBY : Hid ((0 + xs.length) * 48 ≤ 140737488355328) := zq (by omega)
    have HM : Hid (0 < xs.length) := zq (by omega)
    have HO : Hid (∀ w1 : World, (w1.alloc (.cells #[] 64)).ownsRow w1.heap.size 64 6 (.slice (some ⟨w1.heap.size, 0, none⟩) 0 0) 0 []) := zq (fun w1 => ⟨by simp, .inr ⟨w1.heap.size, 0, #[], rfl, Nat.le_refl _, heap_alloc_new w1 _, Nat.le_refl _, by decide, by simp, by simp⟩⟩)
    have HBG : Hid (∀ w2 : World, (w0.drew.alloc (.cells #[] 64)).grownBy w2 (Value.slice (some ⟨w0.drew.heap.size, 0, none⟩) 0 0).ownBlock → Ex w0 w2) := zq (fun w2 hg => (((Ex.refl w0).drew).alloc _).grown hg (by rintro k hk; simp [Value.ownBlock] at hk; omega))
    obtain ⟨gc, hgc⟩ : ∃ gc : Nat, gc = w.heap.size := ⟨_, rfl⟩
    rw [← hw0, ← hgc]
    rw [← hgc] at KC KR
    have HG := zq hgc
    clear hw0 hgc HX
    go_region_held3 (fun w' => (w'.cell? ⟨gc, 0, none⟩ = some (.slice (some ⟨b, off, none⟩) xs.length c) ∧ w'.cell? ⟨gc, 1, none⟩ = some (.int .i64 hand))) (first | exact KC.out.c2 | exact (Blk.drew KC.out).c2 | exact ((Blk.drew KC.out).alloc _).c2 | exact (Blk.ex KC.out hba).c2 | go_keep) (first | (refine step_append_lies _ rfl _ _ 27 rfl w0.heap.size 64 i0 _ 6 48 Tryz.underlying27 hi hz0 hz1 hz2 rfl (by decide) _ 0 [] rfl (HO.out w0.drew) ⟨b, off, none⟩ xs.length c (flat xs) rfl (flat_length xs) (hcell.out _ (((Ex.refl w0).drew).alloc _)) (flat_one xs) HM.out H63.out HBY.out (by simp) _ rfl ?_; intro g cap w2 ho hg hat hlt; have hba := HBG.out _ hg; have hr := Blk.ex KR.out hba; obtain ⟨hr0, hr1⟩ := hr.c2; have hrf := hr.frozen; have hrl := hr.lt; clear hr; have hk := Blk.ex KC.out hba; obtain ⟨hk0, hk1⟩ := hk.c2; have hkl := hk.lt; clear hk))
    rename_i hHeld
    clear hHeld hk0 hk1 hkl hr0 hr1 hrf hrl hat hg hlt
    simp only [Nat.zero_add, List.nil_append] at ho
    obtain ⟨A2, c2, e, hf⟩ := Fr.of_own ho rfl
    cases e
    have HF := zq hf
    have HBA := zq hba
    clear ho hf hba
    have hr := Blk.set (Blk.set (Blk.ex KR.out HBA.out) 0 (.slice (some ⟨g, 0, none⟩) xs.length cap)) 1 (.int .i64 hand)
    obtain ⟨hr0, hr1⟩ := Blk.c2 hr
    have hl := hr.lt
    clear hr
    have HL := zq KR.out.lt
    have HL2 := zq E0.out.size
    have hgl : w.heap.size ≤ gc + 1 := by have := HG.out; omega
    go_wp2
    exact bodyPost_ret (v := .agg #[.slice (some ⟨g, 0, none⟩) xs.length cap, .int .i64 hand]) (by simp [results, Tryz.results83, go_sem, *]) rfl
      ⟨some ⟨g, 0, none⟩, cap, rfl, Fr.mono ((HF.out.set_below HL.out _).set_below HL.out _) HL2.out, ((E0.out.trans HBA.out).set hgl _).set hgl _⟩

set_option maxHeartbeats 2000000 in
theorem l5Copy_c (t : TagsD) (A : Option Addr) (c : Nat) (w : World) (hx : Rd w A t.owns) (hn : t.owns.length ≤ 1048576) (hc : t.owns.length ≤ c) (hc2 : c ≤ maxLen) :
    Calls Tryz.prog 84 #[.agg #[.int .i64 t.count, .int .i64 t.next, .int .i64 t.round, .slice A t.owns.length c]] w fun r w' => ∃ A' c', r = .returned (.agg #[.int .i64 t.count, .int .i64 t.next, .int .i64 t.round, .slice A' t.owns.length c']) ∧ Fr 93 w' w.heap.size A' c' t.owns ∧ Ex w w' := by
  have HX := zq hx
  clear hx
  obtain ⟨i0, hi, hz0, hz1, hz2⟩ := info_parts infoOwn
  obtain ⟨cnt, nxt, rnd, xs⟩ := t
  simp only at HX hn hc ⊢
  go_enter Tryz.func84, Tryz.ntmps84
  go_wp2_with fail
  obtain ⟨w0, hw0⟩ : ∃ w0 : World, w0 = ((w.alloc (.cells #[.int .i64 cnt, .int .i64 nxt, .int .i64 rnd, .slice A xs.length c] 32)).alloc (.cells #[.int .i64 0, .int .i64 0, .int .i64 0, .slice none 0 0] 32)) := ⟨_, rfl⟩
  have E0 : Hid (Ex w w0) := zq (by rw [hw0]; exact ((Ex.refl w).alloc _).alloc _)
  have KC : Hid (Blk w0 w.heap.size 32 [.int .i64 cnt, .int .i64 nxt, .int .i64 rnd, .slice A xs.length c]) := zq (by rw [hw0]; exact (Blk.new _ _ _).alloc _)
  have KR : Hid (Blk w0 (w.heap.size + 1) 32 [.int .i64 0, .int .i64 0, .int .i64 0, .slice none 0 0]) := zq (by rw [hw0]; exact Blk.new_at _ _ _ (by simp))
  have HX0 : Hid (Rd w0 A xs) := zq (HX.out.ex E0.out)
  have H63 : Hid (0 + xs.length ≤ maxLen) := zq (by simp [maxLen]; omega)
  have HBY : Hid ((0 + xs.length) * 16 ≤ 140737488355328) := zq (by omega)
  have HO : Hid (∀ (w1 : World) (a : Option Addr), Fr 93 w1 w0.heap.size a 0 ([] : List OwnD)) := zq (fun w1 a => Fr.none_ _ _ _ _)
  have HBG : Hid (∀ (w2 : World) (a : Option Addr), (w0.alloc (.cells #[] 93)).drew.grownBy w2 (rowOf a 0) → Ex w0 w2) := zq (fun w2 a hg => (((Ex.refl w0).alloc _).drew).grown hg (by rintro k hk; simp [rowOf] at hk))
  have HSZ : Hid (∀ o : Obj, w0.heap.size ≤ (w0.alloc o).drew.heap.size) := zq (fun o => by simp)
  obtain ⟨gc, hgc⟩ : ∃ gc : Nat, gc = w.heap.size := ⟨_, rfl⟩
  rw [← hw0, ← hgc]
  rw [← hgc] at KC KR
  have HG := zq hgc
  clear hw0 hgc HX
  go_region_held3 (fun w' => (w'.cell? ⟨gc, 0, none⟩ = some (.int .i64 cnt) ∧ w'.cell? ⟨gc, 1, none⟩ = some (.int .i64 nxt) ∧ w'.cell? ⟨gc, 2, none⟩ = some (.int .i64 rnd) ∧ w'.cell? ⟨gc, 3, none⟩ = some (.slice A xs.length c))) (first | with_reducible exact KC.out.c4 | with_reducible exact (Blk.drew KC.out).c4 | with_reducible exact (Blk.drew (KC.out.alloc _)).c4 | with_reducible exact (Blk.ex KC.out hba).c4 | with_reducible exact (Blk.drew (Blk.ex KC.out hba)).c4 | go_keep) (first | (refine step_append_fr (α := OwnD) rfl _ _ 30 rfl 93 i0 _ 16 w0.heap.size Tryz.underlying30 hi hz0 hz1 hz2 rfl _ 0 0 [] rfl rfl (HO.out _ _) A c _ xs rfl rfl (Rd.drew (HX0.out.alloc _)) H63.out HBY.out (HSZ.out _) ?_; intro A2 c2 w2 ha; have hba := HBG.out _ _ ha.grown; have hr := Blk.ex KR.out hba; obtain ⟨hr0, hr1, hr2, hr3⟩ := hr.c4; have hrf := hr.frozen; have hrl := hr.lt; clear hr; have hk := Blk.ex KC.out hba; obtain ⟨hk0, hk1, hk2, hk3⟩ := hk.c4; have hkl := hk.lt; clear hk))
  rename_i hHeld
  clear hHeld hk0 hk1 hk2 hk3 hkl hr0 hr1 hr2 hr3 hrf hrl
  simp only [List.nil_append] at ha
  try simp only [Nat.zero_add]
  have HF := zq ha.fr
  have HBA := zq hba
  clear ha hba
  have hr := Blk.set (Blk.set (Blk.set (Blk.set (Blk.ex KR.out HBA.out) 0 (.int .i64 cnt)) 1 (.int .i64 nxt)) 2 (.int .i64 rnd)) 3 (.slice A2 xs.length c2)
  obtain ⟨hr0, hr1, hr2, hr3⟩ := Blk.c4 hr
  have hl := hr.lt
  clear hr
  have HL := zq KR.out.lt
  have HL2 := zq E0.out.size
  have hgl : w.heap.size ≤ gc + 1 := by have := HG.out; omega
  go_wp2
  exact bodyPost_ret (v := .agg #[.int .i64 cnt, .int .i64 nxt, .int .i64 rnd, .slice A2 xs.length c2]) (by simp [results, Tryz.results84, go_sem, *]) rfl
    ⟨A2, c2, rfl, Fr.mono (B := w0.heap.size) (by repeat' (first | exact HF.out | with_reducible refine Fr.set_below ?_ HL.out _)) HL2.out, by repeat' (first | exact E0.out.trans HBA.out | with_reducible refine Ex.set ?_ hgl _)⟩

/-- The capacities are lengths of slices. -/
structure CapX (a : MA) : Prop where
  b : a.bc ≤ maxLen
  f : a.fc ≤ maxLen
  l : a.lc ≤ maxLen
  o : a.oc ≤ maxLen
theorem FrM.capx {w : World} {B : Nat} {m : MachD} {a : MA} (h : FrM w B m a) : CapX a := ⟨h.b.cap, h.f.cap, h.l.cap, h.o.cap⟩

set_option maxHeartbeats 4000000 in
theorem l6Copy_c (m : MachD) (a : MA) (w : World) (hx : HasM w m a) (hf : FewM m) (hc : CapM m a) (hk : CapX a) :
    Calls Tryz.prog 61 #[.agg #[.slice a.b m.table.buckets.length a.bc, .slice a.f m.table.frames.length a.fc, .slice a.l m.cache.lines.length a.lc, .int .i64 m.cache.hand, .int .i64 m.tags.count, .int .i64 m.tags.next, .int .i64 m.tags.round, .slice a.o m.tags.owns.length a.oc, .int .i64 m.space]] w fun r w' => ∃ a', r = .returned (.agg #[.slice a'.b m.table.buckets.length a'.bc, .slice a'.f m.table.frames.length a'.fc, .slice a'.l m.cache.lines.length a'.lc, .int .i64 m.cache.hand, .int .i64 m.tags.count, .int .i64 m.tags.next, .int .i64 m.tags.round, .slice a'.o m.tags.owns.length a'.oc, .int .i64 m.space]) ∧ FrM w' w.heap.size m a' ∧ Ex w w' := by
  obtain ⟨A, c, B, d, L, e, O, g⟩ := a
  have HX := zq hx
  have C1 := zq (fun w' (h : HasM w' m ⟨A, c, B, d, L, e, O, g⟩) => l3Copy_c m.table A c B d w' h.b h.f hf.b hf.f hc.b hc.f hk.b hk.f)
  have C2 := zq (fun w' (h : HasM w' m ⟨A, c, B, d, L, e, O, g⟩) => l4Copy_c m.cache L e w' h.l hf.l hc.l hk.l)
  have C3 := zq (fun w' (h : HasM w' m ⟨A, c, B, d, L, e, O, g⟩) => l5Copy_c m.tags O g w' h.o hf.o hc.o hk.o)
  clear hx hf hc hk
  dsimp only
  generalize en : m.table.frames.length = n at C1 ⊢
  generalize enb : m.table.buckets.length = nb at C1 ⊢
  generalize enl : m.cache.lines.length = nl at C2 ⊢
  generalize eno : m.tags.owns.length = no at C3 ⊢
  have HLE : Hid (m.table.frames.length = n ∧ m.table.buckets.length = nb ∧ m.cache.lines.length = nl ∧ m.tags.owns.length = no) := zq ⟨en, enb, enl, eno⟩
  clear en enb enl eno
  go_enter Tryz.func61, Tryz.ntmps61
  go_wp2_with fail
  obtain ⟨w0, hw0⟩ : ∃ w0 : World, w0 = ((w.alloc (.cells #[.slice A nb c, .slice B n d, .slice L nl e, .int .i64 m.cache.hand, .int .i64 m.tags.count, .int .i64 m.tags.next, .int .i64 m.tags.round, .slice O no g, .int .i64 m.space] 34)).alloc (.cells #[.slice none 0 0, .slice none 0 0, .slice none 0 0, .int .i64 0, .int .i64 0, .int .i64 0, .int .i64 0, .slice none 0 0, .int .i64 0] 34)) := ⟨_, rfl⟩
  have E0 : Hid (Ex w w0) := zq (by rw [hw0]; exact ((Ex.refl w).alloc _).alloc _)
  have KC : Hid (Blk w0 w.heap.size 34 [.slice A nb c, .slice B n d, .slice L nl e, .int .i64 m.cache.hand, .int .i64 m.tags.count, .int .i64 m.tags.next, .int .i64 m.tags.round, .slice O no g, .int .i64 m.space]) := zq (by rw [hw0]; exact (Blk.new _ _ _).alloc _)
  have KR : Hid (Blk w0 (w.heap.size + 1) 34 [.slice none 0 0, .slice none 0 0, .slice none 0 0, .int .i64 0, .int .i64 0, .int .i64 0, .int .i64 0, .slice none 0 0, .int .i64 0]) := zq (by rw [hw0]; exact Blk.new_at _ _ _ (by simp))
  obtain ⟨gc, hgc⟩ : ∃ gc : Nat, gc = w.heap.size := ⟨_, rfl⟩
  rw [← hw0, ← hgc]
  rw [← hgc] at KC KR
  have HG := zq hgc
  have FK : Hid (∀ w', Ex w0 w' → (w'.cell? ⟨gc, 0, none⟩ = some (.slice A nb c) ∧ w'.cell? ⟨gc, 1, none⟩ = some (.slice B n d) ∧ w'.cell? ⟨gc, 2, none⟩ = some (.slice L nl e) ∧ w'.cell? ⟨gc, 3, none⟩ = some (.int .i64 m.cache.hand) ∧ w'.cell? ⟨gc, 4, none⟩ = some (.int .i64 m.tags.count) ∧ w'.cell? ⟨gc, 5, none⟩ = some (.int .i64 m.tags.next) ∧ w'.cell? ⟨gc, 6, none⟩ = some (.int .i64 m.tags.round) ∧ w'.cell? ⟨gc, 7, none⟩ = some (.slice O no g) ∧ w'.cell? ⟨gc, 8, none⟩ = some (.int .i64 m.space))) := zq (fun w' h => (KC.out.ex h).c9)
  clear hw0 hgc
  go_region_held3 (fun w' => (w'.cell? ⟨gc, 0, none⟩ = some (.slice A nb c) ∧ w'.cell? ⟨gc, 1, none⟩ = some (.slice B n d) ∧ w'.cell? ⟨gc, 2, none⟩ = some (.slice L nl e) ∧ w'.cell? ⟨gc, 3, none⟩ = some (.int .i64 m.cache.hand) ∧ w'.cell? ⟨gc, 4, none⟩ = some (.int .i64 m.tags.count) ∧ w'.cell? ⟨gc, 5, none⟩ = some (.int .i64 m.tags.next) ∧ w'.cell? ⟨gc, 6, none⟩ = some (.int .i64 m.tags.round) ∧ w'.cell? ⟨gc, 7, none⟩ = some (.slice O no g) ∧ w'.cell? ⟨gc, 8, none⟩ = some (.int .i64 m.space))) (first | (refine FK.out _ ?_; with_reducible (first | exact Ex.refl _ | exact (Ex.refl _).drew | exact hE1 | exact hE2 | exact hE3)) | go_keep) (first
    | (go_at_call 82; (with_reducible refine (C1.out _ ?_).mono ?_); (exact HX.out.ex (E0.out.drew)); rintro r w1 ⟨A1, c1, B1, d1, rfl, hfa, hfb, hb1⟩; have hE1 := Ex.trans (Ex.refl _).drew hb1)
    | (go_at_call 83; (with_reducible refine (C2.out _ ?_).mono ?_); (exact HX.out.ex (E0.out.trans hE1)); rintro r w2 ⟨A2, c2, rfl, hfc, hb2⟩; have hE2 := Ex.trans hE1 hb2)
    | (go_at_call 84; (with_reducible refine (C3.out _ ?_).mono ?_); (exact HX.out.ex (E0.out.trans hE2)); rintro r w3 ⟨A3, c3, rfl, hfd, hb3⟩; have hE3 := Ex.trans hE2 hb3; have hr := Blk.ex KR.out hE3; obtain ⟨hr0, hr1, hr2, hr3, hr4, hr5, hr6, hr7, hr8⟩ := hr.c9; have hrf := hr.frozen; have hrl := hr.lt; clear hr; obtain ⟨hk0, hk1, hk2, hk3, hk4, hk5, hk6, hk7, hk8⟩ := FK.out _ hE3))
  rename_i hHeld
  clear hHeld hk0 hk1 hk2 hk3 hk4 hk5 hk6 hk7 hk8 hr0 hr1 hr2 hr3 hr4 hr5 hr6 hr7 hr8 hrf hrl
  have s1 : w0.heap.size ≤ w1.heap.size := hb1.size
  have s2 := hb2.size
  have s3 := hb3.size
  have s0 := E0.out.size
  have lR := KR.out.lt
  have HFA := zq (Fr.mono (B' := w.heap.size) (hfa.ex (hb2.trans hb3)) s0)
  have HFB := zq (Fr.mono (B' := w.heap.size) (hfb.ex (hb2.trans hb3)) s0)
  have HFC := zq (Fr.mono (B' := w.heap.size) (hfc.ex hb3) (by omega))
  have HFD := zq (Fr.mono (B' := w.heap.size) hfd (by omega))
  have WFA : Hid (∀ b, rowOf A1 c1 = some b → b ≠ gc + 1) := zq (fun b hb => by have h1 : w0.heap.size ≤ b := (hfa.row b hb).1; omega)
  have WFB : Hid (∀ b, rowOf B1 d1 = some b → b ≠ gc + 1) := zq (fun b hb => by have h1 : w0.heap.size ≤ b := (hfb.row b hb).1; omega)
  have WFC : Hid (∀ b, rowOf A2 c2 = some b → b ≠ gc + 1) := zq (fun b hb => by have h1 := (hfc.row b hb).1; omega)
  have WFD : Hid (∀ b, rowOf A3 c3 = some b → b ≠ gc + 1) := zq (fun b hb => by have h1 := (hfd.row b hb).1; omega)
  have HE3 := zq hE3
  clear hfa hfb hfc hfd hb1 hb2 hb3 hE1 hE2 hE3 s1 s2 s3 s0 lR
  have hr := Blk.set (Blk.set (Blk.set (Blk.set (Blk.set (Blk.set (Blk.set (Blk.set (Blk.set (Blk.ex KR.out HE3.out) 0 (.slice A1 nb c1)) 1 (.slice B1 n d1)) 2 (.slice A2 nl c2)) 3 (.int .i64 m.cache.hand)) 4 (.int .i64 m.tags.count)) 5 (.int .i64 m.tags.next)) 6 (.int .i64 m.tags.round)) 7 (.slice A3 no c3)) 8 (.int .i64 m.space)
  obtain ⟨hr0, hr1, hr2, hr3, hr4, hr5, hr6, hr7, hr8⟩ := Blk.c9 hr
  have hl := hr.lt
  clear hr
  have hgl : w.heap.size ≤ gc + 1 := by have := HG.out; omega
  obtain ⟨e1, e2, e3, e4⟩ := HLE.out
  subst e1 e2 e3 e4
  go_wp2
  exact bodyPost_ret (v := .agg #[.slice A1 m.table.buckets.length c1, .slice B1 m.table.frames.length d1, .slice A2 m.cache.lines.length c2, .int .i64 m.cache.hand, .int .i64 m.tags.count, .int .i64 m.tags.next, .int .i64 m.tags.round, .slice A3 m.tags.owns.length c3, .int .i64 m.space]) (by simp [results, Tryz.results61, go_sem, hr0, hr1, hr2, hr3, hr4, hr5, hr6, hr7, hr8]) rfl
    ⟨⟨A1, c1, B1, d1, A2, c2, A3, c3⟩, rfl, ⟨by repeat' (first | with_reducible exact HFA.out | with_reducible refine Fr.put ?_ WFA.out _), by repeat' (first | with_reducible exact HFB.out | with_reducible refine Fr.put ?_ WFB.out _), by repeat' (first | with_reducible exact HFC.out | with_reducible refine Fr.put ?_ WFC.out _), by repeat' (first | with_reducible exact HFD.out | with_reducible refine Fr.put ?_ WFD.out _)⟩, by repeat' (first | with_reducible exact E0.out.trans HE3.out | with_reducible refine Ex.set ?_ hgl _)⟩


def wireOut (t : CacheD) (k : Nat) (b : Bool) : CacheD := ⟨t.lines.set k { t.lines.getD k noLine with wired := b }, t.hand⟩
def wireLine (t : CacheD) (p : Int) (b : Bool) : CacheD × Bool :=
  if cacheV t = true ∧ inB p t.lines.length = true ∧ (t.lines.getD p.toNat noLine).valid = true ∧ cacheV (wireOut t p.toNat b) = true then (wireOut t p.toNat b, true) else (noCache, false)

end Go.Proofs.YtbdlpbladpppjaaGreatDoor
namespace Go.Proofs.YtbdlpbladpppjaaGreatDoor
open Go.ChangeShapes Go.WideShapes Go.ChangeAt Go.RowKit
set_option linter.unusedVariables false

def dropPage (t : CacheD) (tag page : Int) : CacheD × Bool :=
  if (findLine t tag page).2 = true then (⟨t.lines.set (findLine t tag page).1.toNat noLine, t.hand⟩, true) else (noCache, false)
theorem findLine_at (t : CacheD) (tag page : Int) : (findLine t tag page).2 = true → ∃ (k : Nat) (x : LineD), (findLine t tag page).1 = (k : Int) ∧ t.lines[k]? = some x ∧ fitsB x tag page = true ∧ (∀ (j : Nat) (y : LineD), j < k → t.lines[j]? = some y → fitsB y tag page = false) ∧ cacheV t = true ∧ tagB tag = true ∧ inB page 256 = true := by
  unfold findLine placeOf
  intro h
  split at h
  · split at h
    · split at h
      · split at h
        · rename_i h1 h2 h3 h4
          rcases firstOf_cases (fun x => fitsB x tag page) t.lines with ⟨e, _⟩ | ⟨k, x, e, hx, hp, hj⟩
          · omega
          · simp only [h1, h2, h3, h4, if_true]
            exact ⟨k, x, e, hx, hp, hj, trivial, trivial, trivial⟩
        · cases h
      · cases h
    · cases h
  · cases h

theorem clashB_comm (x y : LineD) : clashB x y = clashB y x := by
  unfold clashB
  rw [Bool.eq_iff_iff]
  simp only [Bool.and_eq_true, Bool.or_eq_true, beq_iff_eq]
  constructor <;> (rintro ⟨a, b, c, d⟩; refine ⟨b, a, c.symm, ?_⟩; rcases d with d | d | d <;> simp [d])

structure CV (c : CacheD) : Prop where
  n1 : 1 ≤ c.lines.length
  n8 : c.lines.length ≤ 8
  h0 : 0 ≤ c.hand
  h1 : c.hand < c.lines.length
  ok : ∀ (i : Nat) (x : LineD), c.lines[i]? = some x → lineV x = true
  ap : ∀ (i j : Nat) (x y : LineD), i ≠ j → c.lines[i]? = some x → c.lines[j]? = some y → clashB x y = false
  lo : ∃ (i : Nat) (x : LineD), c.lines[i]? = some x ∧ x.wired = false

theorem cv_iff (c : CacheD) : cacheV c = true ↔ CV c := by
  rw [cacheV_iff]
  constructor
  · rintro ⟨⟨a, b, d, e⟩, ho, hl⟩
    refine ⟨a, b, d, e, fun i x hx => (ho i x (getElem?_lt hx) hx).1, fun i j x y hij hx hy => ?_, ?_⟩
    · rcases Nat.lt_or_gt_of_ne hij with h | h
      · rw [clashB_comm]; exact (ho j y (getElem?_lt hy) hy).2 i x h hx
      · exact (ho i x (getElem?_lt hx) hx).2 j y h hy
    · unfold looseUp at hl
      rw [List.take_length, List.any_eq_true] at hl
      obtain ⟨x, hx, hw⟩ := hl
      obtain ⟨k, hk, rfl⟩ := List.getElem_of_mem hx
      exact ⟨k, _, List.getElem?_eq_getElem hk, by simpa using hw⟩
  · rintro ⟨a, b, d, e, ok, ap, i, x, hx, hw⟩
    refine ⟨⟨a, b, d, e⟩, fun i x hi hx => ⟨ok i x hx, fun j y hj hy => ap i j x y (by omega) hx hy⟩, ?_⟩
    unfold looseUp
    rw [List.take_length, List.any_eq_true]
    exact ⟨x, List.mem_of_getElem? hx, by simp [hw]⟩

theorem lineV_no {x : LineD} (h : lineV x = true) (hv : x.valid = false) : x = noLine := by
  unfold lineV at h
  rw [hv] at h
  exact eqB_true.1 h
theorem lineV_yes {x : LineD} (h : lineV x = true) (hv : x.valid = true) : tagB x.tag = true ∧ inB x.page 256 = true ∧ inB x.frame 16 = true ∧ inB x.rights 8 = true := by
  unfold lineV at h
  rw [hv] at h
  simpa [Bool.and_eq_true] using h
theorem lineV_noLine : lineV noLine = true := by decide
theorem clash_no (x : LineD) : clashB x noLine = false := by unfold clashB; simp [noLine]
theorem clash_no' (x : LineD) : clashB noLine x = false := by unfold clashB; simp [noLine]

theorem tagB_iff {t : Int} : tagB t = true ↔ -1 ≤ t ∧ t < 8 := by simp [tagB]

/-- Two lines that fit one tag and one page clash. -/
theorem fits_clash {x y : LineD} {tag page : Int} (hx : fitsB x tag page = true) (hy : fitsB y tag page = true) : clashB x y = true := by
  unfold fitsB at hx hy
  unfold clashB
  simp only [Bool.and_eq_true, Bool.or_eq_true, beq_iff_eq] at hx hy ⊢
  obtain ⟨a, b, c⟩ := hx
  obtain ⟨a', b', c'⟩ := hy
  refine ⟨a, a', by omega, ?_⟩
  rcases c with c | c <;> rcases c' with c' | c' <;> simp [c, c']

/-- The one line that fits is found. -/
theorem place_uniq {t : CacheD} (h : CV t) {k : Nat} {x : LineD} {tag page : Int} (hx : t.lines[k]? = some x) (hf : fitsB x tag page = true) : placeOf t.lines tag page = (k : Int) := by
  unfold placeOf
  refine firstOf_at hx hf fun j y hj hy => ?_
  cases hy' : fitsB y tag page
  · rfl
  · have := h.ap k j x y (by omega) hx hy
    rw [fits_clash hf hy'] at this
    cases this
theorem place_none {xs : List LineD} {tag page : Int} (h : ∀ (j : Nat) (y : LineD), xs[j]? = some y → fitsB y tag page = false) : placeOf xs tag page = -1 :=
  firstOf_none fun j y _ hy => h j y hy
theorem findLine_eq {t : CacheD} (h : CV t) {tag page : Int} (ht : tagB tag = true) (hp : inB page 256 = true) : findLine t tag page = if 0 ≤ placeOf t.lines tag page then (placeOf t.lines tag page, true) else (0, false) := by
  unfold findLine
  rw [(cv_iff t).2 h, ht, hp]
  rfl
theorem findLine_found {t : CacheD} (h : CV t) {k : Nat} {x : LineD} {tag page : Int} (ht : tagB tag = true) (hx : t.lines[k]? = some x) (hf : fitsB x tag page = true) : findLine t tag page = ((k : Int), true) := by
  have hp : inB page 256 = true := by
    have hv : x.valid = true := by unfold fitsB at hf; simp [Bool.and_eq_true] at hf; exact hf.1
    have e : x.page = page := by unfold fitsB at hf; simp [Bool.and_eq_true] at hf; exact hf.2.1
    rw [← e]
    exact (lineV_yes (h.ok k x hx) hv).2.1
  rw [findLine_eq h ht hp, place_uniq h hx hf, if_pos (by omega)]
/-- What the victim is. -/
theorem victim_spec {t : CacheD} (h : CV t) : ∃ (v : Nat) (x : LineD), victimAt t = (v : Int) ∧ t.lines[v]? = some x ∧ x.wired = false ∧
    ((x.valid = false ∧ ∀ (j : Nat) (y : LineD), j < v → t.lines[j]? = some y → y.valid = true) ∨ ∀ (j : Nat) (y : LineD), t.lines[j]? = some y → y.valid = true) := by
  obtain ⟨h', d0, e1, e2, e3, e4, b1, b2, b3, b4⟩ := victim_facts ((cv_iff t).2 h)
  rcases firstOf_cases (fun x : LineD => !x.valid) t.lines with ⟨e, ha⟩ | ⟨k, x, e, hx, hp, hj⟩
  · have ha' : ∀ (j : Nat) (y : LineD), t.lines[j]? = some y → y.valid = true := fun j y hy => by have := ha j y hy; simpa using this
    have hlt : (h' + d0) % t.lines.length < t.lines.length := Nat.mod_lt _ (by have := h.n1; omega)
    refine ⟨_, _, b2 (fun j y _ hy => ha' j y hy), List.getElem?_eq_getElem hlt, b4 _ (List.getElem?_eq_getElem hlt), .inr ha'⟩
  · have hp' : x.valid = false := by simpa using hp
    have hj' : ∀ (j : Nat) (y : LineD), j < k → t.lines[j]? = some y → y.valid = true := fun j y h1 h2 => by have := hj j y h1 h2; simpa using this
    refine ⟨k, x, b1 k x hx hp' hj', hx, ?_, .inl ⟨hp', hj'⟩⟩
    rw [lineV_no (h.ok k x hx) hp']
    rfl
theorem get_set_cases {α : Type} {xs : List α} {k i : Nat} {x y : α} (h : (xs.set k x)[i]? = some y) : (i = k ∧ y = x ∧ k < xs.length) ∨ (i ≠ k ∧ xs[i]? = some y) := by
  by_cases e : i = k
  · subst e
    have hl := getElem?_lt h
    rw [List.length_set] at hl
    rw [List.getElem?_set_self hl] at h
    injection h with h
    exact .inl ⟨rfl, h.symm, hl⟩
  · rw [List.getElem?_set_ne (fun q => e q.symm)] at h
    exact .inr ⟨e, h⟩

/-- One line is laid anew. -/
theorem CV.set {t : CacheD} (h : CV t) {v : Nat} {x : LineD} {hd : Int} (h0 : 0 ≤ hd) (h1 : hd < t.lines.length) (hx : lineV x = true)
    (hc : ∀ (j : Nat) (y : LineD), j ≠ v → t.lines[j]? = some y → clashB x y = false) (hl : ∃ (i : Nat) (y : LineD), (t.lines.set v x)[i]? = some y ∧ y.wired = false) : CV ⟨t.lines.set v x, hd⟩ := by
  refine ⟨by simpa using h.n1, by simpa using h.n8, h0, by simpa using h1, fun i y hy => ?_, fun i j y z hij hy hz => ?_, hl⟩
  · rcases get_set_cases hy with ⟨_, rfl, _⟩ | ⟨_, hy⟩
    · exact hx
    · exact h.ok i y hy
  · rcases get_set_cases hy with ⟨e1, rfl, _⟩ | ⟨e1, hy'⟩ <;> rcases get_set_cases hz with ⟨e2, rfl, _⟩ | ⟨e2, hz'⟩
    · omega
    · exact hc j z e2 hz'
    · rw [clashB_comm]; exact hc i y e1 hy'
    · exact h.ap i j y z hij hy' hz'

/-! ### Dropping -/
end Go.Proofs.YtbdlpbladpppjaaGreatDoor
namespace Go.Proofs.YtbdlpbladpppjaaGreatDoor
open Go.ChangeShapes Go.WideShapes Go.ChangeAt Go.RowKit
set_option linter.unusedVariables false

theorem sub_len : ∀ (l1 l2 : List Nat), l1.Nodup → (∀ x ∈ l1, x ∈ l2) → l1.length ≤ l2.length := by
  intro l1
  induction l1 with
  | nil => intro l2 _ _; exact Nat.zero_le _
  | cons a l ih =>
    intro l2 hn hs
    obtain ⟨hn1, hn2⟩ := List.nodup_cons.1 hn
    have ha : a ∈ l2 := hs a (by simp)
    have h1 := ih (l2.erase a) hn2 (fun y hy => (List.mem_erase_of_ne (fun e2 => hn1 (by rw [← e2]; exact hy))).2 (hs y (List.mem_cons_of_mem _ hy)))
    rw [List.length_erase_of_mem ha] at h1
    have := List.length_pos_of_mem ha
    simp
    omega

/-- A valid table, told without counting. -/
structure TOk (t : TableD) : Prop where
  head : TableHead t
  up : FramesUp t.frames t.frames.length
  ch : ∀ (b : Nat) (a : Int), t.buckets[b]? = some a → ∃ l, Chain t.frames a l ∧ ∀ (i : Nat) (f : FrameD), i ∈ l → t.frames[i]? = some f → hashK f.key t.buckets.length = b
  met : ∀ (i : Nat) (f : FrameD), t.frames[i]? = some f → f.used = true → ∃ (b : Nat) (a : Int) (l : List Nat), t.buckets[b]? = some a ∧ Chain t.frames a l ∧ i ∈ l

theorem TOk.of {t : TableD} (h : TableOk t) : TOk t :=
  ⟨h.1, h.2.1, fun b a ha => h.bucket ha, fun i f hf hu => by
    obtain ⟨b, a, l, h1, h2, h3, _⟩ := h.met hf hu
    exact ⟨b, a, l, h1, h2, h3⟩⟩
theorem usedIx_nodup (fs : List FrameD) (k : Nat) : (usedIx fs k).Nodup := by
  unfold usedIx
  exact List.Nodup.sublist List.filter_sublist List.nodup_range
theorem TOk.lists {t : TableD} (h : TOk t) : ∀ k, k ≤ t.buckets.length → ∃ ls, Buckets t k ls := by
  intro k
  induction k with
  | zero => intro _; exact ⟨[], Buckets.zero t⟩
  | succ k ih =>
    intro hk
    obtain ⟨ls, hls⟩ := ih (by omega)
    have ha := List.getElem?_eq_getElem (l := t.buckets) (i := k) (by omega)
    obtain ⟨l, h1, h2⟩ := h.ch k _ ha
    exact ⟨_, hls.succ ha h1 h2⟩
theorem TOk.ok {t : TableD} (h : TOk t) : TableOk t := by
  obtain ⟨ls, hls⟩ := h.lists _ (Nat.le_refl _)
  refine ⟨h.head, h.up, ls, hls, ?_⟩
  have hfl : sumL ls = ls.flatten.length := by rw [List.length_flatten]; rfl
  rw [hfl, ← usedIx_len _ _ (Nat.le_refl _)]
  refine Nat.le_antisymm (sub_len _ _ hls.nodup fun x hx => ?_) (sub_len _ _ (usedIx_nodup _ _) fun x hx => ?_)
  · obtain ⟨l, hl, hx⟩ := List.mem_flatten.1 hx
    obtain ⟨b, hb', e⟩ := List.getElem_of_mem hl
    obtain ⟨a, _, _, hc, _⟩ := hls.at_ (Nat.le_refl _) (b := b) (l := l) (by rw [List.getElem?_eq_getElem hb', e])
    obtain ⟨g, hg, hgu⟩ := hc.in_ hx
    exact mem_usedIx.2 ⟨getElem?_lt hg, g, hg, hgu⟩
  · obtain ⟨hlt, f, hf, hu⟩ := mem_usedIx.1 hx
    obtain ⟨b, a, l, ha, hc, hi⟩ := h.met x f hf hu
    have hb : b < ls.length := by rw [hls.1]; exact getElem?_lt ha
    obtain ⟨h1, _⟩ := hls.2 b a ls[b] (getElem?_lt ha) ha (List.getElem?_eq_getElem hb)
    rw [hc.one h1] at hi
    exact List.mem_flatten.2 ⟨_, List.getElem_mem hb, hi⟩

/-! ### Who is where -/
theorem findF_at {t : TableD} {k : KeyD} {i : Nat} (h : findF t k = (i : Int)) : ∃ f, t.frames[i]? = some f ∧ f.used = true ∧ f.key = k := by
  unfold findF at h
  rcases firstOf_cases (fitsKey k) t.frames with ⟨e, _⟩ | ⟨x, f, e, hf, hp, _⟩
  · omega
  · have e2 : x = i := by omega
    subst e2
    unfold fitsKey at hp
    rw [Bool.and_eq_true] at hp
    exact ⟨f, hf, hp.1, eqB_true.1 hp.2⟩
theorem findF_neg {t : TableD} {k : KeyD} (h : findF t k < 0) {i : Nat} {f : FrameD} (hf : t.frames[i]? = some f) (hu : f.used = true) : f.key ≠ k := by
  unfold findF at h
  rcases firstOf_cases (fitsKey k) t.frames with ⟨_, e⟩ | ⟨x, f, e, _⟩
  · have := e i f hf
    unfold fitsKey at this
    rw [hu, Bool.true_and] at this
    exact eqB_false.1 this
  · omega
theorem findF_or {t : TableD} (k : KeyD) : findF t k = -1 ∨ ∃ (x : Nat) (f : FrameD), findF t k = (x : Int) ∧ t.frames[x]? = some f ∧ f.used = true ∧ f.key = k := by
  rcases findF_range (t := t) k with h | ⟨x, f, h, hf⟩
  · exact .inl h
  · obtain ⟨g, hg, h1, h2⟩ := findF_at h
    exact .inr ⟨x, g, h, hg, h1, h2⟩
theorem findF_none {t : TableD} {k : KeyD} (h : ∀ (i : Nat) (f : FrameD), t.frames[i]? = some f → f.used = true → f.key ≠ k) : findF t k = -1 := by
  rcases findF_or (t := t) k with e | ⟨x, f, _, hf, hu, hk⟩
  · exact e
  · exact absurd hk (h x f hf hu)

/-! ### Putting a key in -/
def bkOf (t : TableD) (k : KeyD) : Nat := (hashK k t.buckets.length).toNat
def linkT (t : TableD) (k : KeyD) (i : Nat) (rt : Int) : TableD := ⟨t.buckets.set (bkOf t k) (i : Int), t.frames.set i ⟨true, k, rt, t.buckets.getD (bkOf t k) 0⟩⟩
def putsT (t : TableD) (k : KeyD) (i : Nat) : Bool := !(t.frames.getD i freeF).used && decide (findF t k < 0)
def mapT (t : TableD) (k : KeyD) (i : Nat) (rt : Int) : TableD × Bool := if putsT t k i = true then (linkT t k i rt, true) else (noTable, false)

theorem bkOf_lt {t : TableD} (h : TableHead t) {k : KeyD} (hk : keyOk k) : bkOf t k < t.buckets.length ∧ hashK k t.buckets.length = (bkOf t k : Int) := by
  have := hashK_range hk h.2.1 h.2.2
  unfold bkOf
  omega
theorem Chain.set_free {fs : List FrameD} {a : Int} {l : List Nat} (h : Chain fs a l) {i : Nat} (g : FrameD) (hi : i ∉ l) : Chain (fs.set i g) a l := by
  induction h with
  | nil => exact .nil
  | @cons j f l hf hu hl ih =>
    simp only [List.mem_cons, not_or] at hi
    exact .cons (by rw [List.getElem?_set_ne hi.1]; exact hf) hu (ih hi.2)
theorem linkT_get {t : TableD} {k : KeyD} {i : Nat} {rt : Int} {j : Nat} {f : FrameD} (h : (linkT t k i rt).frames[j]? = some f) : (j = i ∧ f = ⟨true, k, rt, t.buckets.getD (bkOf t k) 0⟩ ∧ i < t.frames.length) ∨ (j ≠ i ∧ t.frames[j]? = some f) := get_set_cases h
theorem linkT_ok {t : TableD} (h : TableOk t) {k : KeyD} {i : Nat} {rt : Int} (hk : keyOk k) (hr : 0 ≤ rt ∧ rt < 8) {f : FrameD} (hf : t.frames[i]? = some f) (hu : f.used = false) (hn : findF t k < 0) : TableOk (linkT t k i rt) := by
  have hb := bkOf_lt h.1 hk
  have hi := getElem?_lt hf
  have hlb : (linkT t k i rt).buckets.length = t.buckets.length := by unfold linkT; simp
  have hlf : (linkT t k i rt).frames.length = t.frames.length := by unfold linkT; simp
  have T := TOk.of h
  have hnot : ∀ (a : Int) (l : List Nat), Chain t.frames a l → i ∉ l := fun a l hc hm => by
    obtain ⟨g, hg, hgu⟩ := hc.in_ hm
    rw [hf] at hg
    injection hg with hg
    subst hg
    rw [hu] at hgu
    cases hgu
  have hba := List.getElem?_eq_getElem hb.1
  obtain ⟨l0, hc0, hh0⟩ := T.ch _ _ hba
  have hgd : t.buckets.getD (bkOf t k) 0 = t.buckets[bkOf t k] := by rw [List.getD_eq_getElem?_getD, hba]; rfl
  have hnew : Chain (linkT t k i rt).frames (i : Int) (i :: l0) := by
    refine .cons (f := ⟨true, k, rt, t.buckets.getD (bkOf t k) 0⟩) (by unfold linkT; exact List.getElem?_set_self hi) rfl ?_
    rw [hgd]
    exact hc0.set_free _ (hnot _ _ hc0)
  refine TOk.ok ⟨?_, ?_, ?_, ?_⟩
  · unfold TableHead
    rw [hlb, hlf]
    exact h.1
  · intro j g hj hg
    rcases linkT_get hg with ⟨rfl, rfl, _⟩ | ⟨hne, hg'⟩
    · refine ⟨⟨(fun e => by cases e), fun _ => ⟨hk, hr⟩⟩, fun j' g' hj' hg' _ hu' => ?_⟩
      rcases linkT_get hg' with ⟨rfl, _, _⟩ | ⟨_, hg2⟩
      · omega
      · exact findF_neg hn hg2 hu'
    · have h1 := h.2.1 j g (getElem?_lt hg') hg'
      refine ⟨h1.1, fun j' g' hj' hg2 hu1 hu2 => ?_⟩
      rcases linkT_get hg2 with ⟨rfl, rfl, _⟩ | ⟨_, hg3⟩
      · exact fun e => findF_neg hn hg' hu1 e.symm
      · exact h1.2 j' g' hj' hg3 hu1 hu2
  · intro b a hba'
    rw [hlb]
    rcases get_set_cases (show (t.buckets.set (bkOf t k) (i : Int))[b]? = some a from hba') with ⟨rfl, rfl, _⟩ | ⟨hne, hba2⟩
    · refine ⟨i :: l0, hnew, fun j g hj hg => ?_⟩
      rcases linkT_get hg with ⟨rfl, rfl, _⟩ | ⟨hne, hg'⟩
      · exact hb.2
      · rcases List.mem_cons.1 hj with e | e
        · exact absurd e hne
        · exact hh0 j g e hg'
    · obtain ⟨l, hc, hh⟩ := T.ch b a hba2
      refine ⟨l, hc.set_free _ (hnot _ _ hc), fun j g hj hg => ?_⟩
      rcases linkT_get hg with ⟨rfl, rfl, _⟩ | ⟨_, hg'⟩
      · exact absurd hj (hnot _ _ hc)
      · exact hh j g hj hg'
  · intro j g hg hgu
    rcases linkT_get hg with ⟨rfl, rfl, _⟩ | ⟨hne, hg'⟩
    · exact ⟨bkOf t k, _, _, by unfold linkT; exact List.getElem?_set_self hb.1, hnew, by simp⟩
    · obtain ⟨b, a, l, ha, hc, hm⟩ := T.met j g hg' hgu
      by_cases e : b = bkOf t k
      · subst e
        rw [hba] at ha
        injection ha with ha
        subst ha
        rw [hc.one hc0] at hm
        exact ⟨bkOf t k, _, _, by unfold linkT; exact List.getElem?_set_self hb.1, hnew, by simp [hm]⟩
      · exact ⟨b, a, l, by unfold linkT; simp only; rw [List.getElem?_set_ne (fun q => e q.symm)]; exact ha, hc.set_free _ (hnot _ _ hc), hm⟩
theorem linkT_find {t : TableD} {k : KeyD} {i : Nat} {rt : Int} (h : TableOk (linkT t k i rt)) (hi : i < t.frames.length) : findF (linkT t k i rt) k = (i : Int) :=
  findF_hit h (f := ⟨true, k, rt, t.buckets.getD (bkOf t k) 0⟩) (by unfold linkT; exact List.getElem?_set_self hi) rfl rfl
theorem linkT_keep {t : TableD} {k : KeyD} {i : Nat} {rt : Int} {j : Nat} {f g : FrameD} (hf : t.frames[i]? = some f) (hu : f.used = false) (hg : t.frames[j]? = some g) (hgu : g.used = true) : (linkT t k i rt).frames[j]? = some g := by
  have hne : i ≠ j := by
    rintro rfl
    rw [hf] at hg
    injection hg with hg
    subst hg
    rw [hu] at hgu
    cases hgu
  unfold linkT
  simp only
  rw [List.getElem?_set_ne hne]
  exact hg

/-! ### Taking a key out -/
def skipF (i : Nat) (nx : Int) (f : FrameD) : FrameD := if f.used = true ∧ f.next = (i : Int) then { f with next := nx } else f
/-- The frames behind the loop that goes on over the first n of them. -/
def skipTo (fs : List FrameD) (i : Nat) (nx : Int) (n : Nat) : List FrameD := fs.mapIdx fun j f => if j = i then freeF else if j < n then skipF i nx f else f
def unlinkT (t : TableD) (i : Nat) : TableD :=
  if t.buckets.getD (bkOf t (t.frames.getD i freeF).key) 0 = (i : Int) then ⟨t.buckets.set (bkOf t (t.frames.getD i freeF).key) (t.frames.getD i freeF).next, t.frames.set i freeF⟩
  else ⟨t.buckets, skipTo t.frames i (t.frames.getD i freeF).next t.frames.length⟩
theorem skipTo_length (fs : List FrameD) (i : Nat) (nx : Int) (n : Nat) : (skipTo fs i nx n).length = fs.length := by unfold skipTo; simp
theorem skipTo_get {fs : List FrameD} {i : Nat} {nx : Int} {n j : Nat} {f : FrameD} (h : fs[j]? = some f) : (skipTo fs i nx n)[j]? = some (if j = i then freeF else if j < n then skipF i nx f else f) := by
  unfold skipTo
  rw [List.getElem?_mapIdx, h]
  rfl
theorem skipF_facts (i : Nat) (nx : Int) (f : FrameD) : (skipF i nx f).used = f.used ∧ (skipF i nx f).key = f.key ∧ (skipF i nx f).rights = f.rights := by
  unfold skipF
  split <;> exact ⟨rfl, rfl, rfl⟩
/-- A chain that goes through i goes on behind it. -/
theorem Chain.skip {fs fs' : List FrameD} {i : Nat} {nx : Int} (hi : ∀ f, fs[i]? = some f → f.next = nx) (ho : ∀ (j : Nat) (f : FrameD), j ≠ i → fs[j]? = some f → f.used = true → fs'[j]? = some (skipF i nx f)) {a : Int} {l : List Nat} (h : Chain fs a l) :
    Chain fs' (if a = (i : Int) then nx else a) (l.filter (fun j => decide (j ≠ i))) := by
  induction h with
  | nil => rw [if_neg (by omega)]; exact .nil
  | @cons j f l hf hu hl ih =>
    by_cases e : j = i
    · subst e
      have hn := hi f hf
      rw [if_pos rfl, List.filter_cons_of_neg (by simp)]
      rw [hn] at ih
      split at ih <;> exact ih
    · rw [if_neg (by omega), List.filter_cons_of_pos (by simp [e])]
      refine .cons (ho j f e hf hu) (by rw [(skipF_facts i nx f).1]; exact hu) ?_
      have h2 : (skipF i nx f).next = if f.next = (i : Int) then nx else f.next := by
        unfold skipF
        rw [hu]
        by_cases e2 : f.next = (i : Int)
        · rw [if_pos ⟨rfl, e2⟩, if_pos e2]
        · rw [if_neg (fun q => e2 q.2), if_neg e2]
      rw [h2]
      exact ih
/-- What the table is behind it, told in one way. -/
theorem unlinkT_facts {t : TableD} (h : TableOk t) {i : Nat} {f : FrameD} (hf : t.frames[i]? = some f) (hu : f.used = true) :
    (unlinkT t i).buckets.length = t.buckets.length ∧ (unlinkT t i).frames.length = t.frames.length ∧ (unlinkT t i).frames[i]? = some freeF ∧
    (∀ (j : Nat) (g : FrameD), j ≠ i → t.frames[j]? = some g → ∃ g', (unlinkT t i).frames[j]? = some g' ∧ g'.used = g.used ∧ g'.key = g.key ∧ g'.rights = g.rights ∧ (g.used = false → g' = g) ∧ (g.used = true → g' = skipF i f.next g)) ∧
    (∀ (b : Nat) (a : Int), t.buckets[b]? = some a → (unlinkT t i).buckets[b]? = some (if a = (i : Int) then f.next else a)) := by
  have T := TOk.of h
  have hi := getElem?_lt hf
  have hfk : keyOk f.key := (((h.2.1 i f hi hf).1).2 hu).1
  have hb := bkOf_lt h.1 hfk
  have hgd : t.frames.getD i freeF = f := getD_of hf
  obtain ⟨b0, a0, l0, ha0, hc0, hm0, hh0⟩ := h.met hf hu
  have hb0 : b0 = bkOf t f.key := by have := hb.2; omega
  subst hb0
  have hbd : t.buckets.getD (bkOf t f.key) 0 = a0 := getD_of ha0
  have hother : ∀ (b : Nat) (a : Int), t.buckets[b]? = some a → b ≠ bkOf t f.key → a ≠ (i : Int) := fun b a ha hne e => by
    obtain ⟨l, hc, hh⟩ := T.ch b a ha
    subst e
    rcases hc.inv with ⟨e, _⟩ | ⟨j, g, l3, e, e2, hg, hgu, _⟩
    · omega
    · have e3 : i = j := by omega
      subst e3
      have := hh i f (by rw [e2]; simp) hf
      omega
  unfold unlinkT
  rw [hgd, hbd]
  by_cases e : a0 = (i : Int)
  · rw [if_pos e]
    subst e
    have hno : ∀ (j : Nat) (g : FrameD), t.frames[j]? = some g → g.used = true → g.next ≠ (i : Int) := fun j g hg hgu e => by
      obtain ⟨b, a, l, ha, hc, hm, hh⟩ := h.met hg hgu
      obtain ⟨l2, hc2, hlen⟩ := hc.from hm
      rcases hc2.inv with ⟨e1, _⟩ | ⟨j', g', l3, e1, e2, hg', _, hc3⟩
      · omega
      · have e3 : j = j' := by omega
        subst e3
        rw [hg] at hg'
        injection hg' with hg'
        subst hg'
        injection e2 with _ e2
        subst e2
        rw [e] at hc3
        have e4 := hc3.one hc0
        subst e4
        have hb' : b = bkOf t f.key := by
          have hjl : i ∈ l := by
            have : ∀ {a : Int} {l : List Nat}, Chain t.frames a l → ∀ {j : Nat} {l2 : List Nat}, j ∈ l → Chain t.frames (j : Int) (j :: l2) → ∀ x ∈ l2, x ∈ l := by
              intro a l hc
              induction hc with
              | nil => intro j l2 hj; cases hj
              | @cons p q r hq hqu hr ih =>
                intro j l2 hj hc2 x hx
                rcases List.mem_cons.1 hj with e | e
                · subst e
                  have := (Chain.cons hq hqu hr).one hc2
                  injection this with _ this
                  rw [this]
                  exact List.mem_cons_of_mem _ hx
                · exact List.mem_cons_of_mem _ (ih e hc2 x hx)
            exact this hc hm hc2 i hm0
          have hx := (T.ch b a ha)
          obtain ⟨lx, hcx, hhx⟩ := hx
          rw [hc.one hcx] at hjl
          have := hhx i f hjl hf
          omega
        subst hb'
        rw [ha0] at ha
        injection ha with ha
        subst ha
        rw [hc.one hc0] at hlen
        simp at hlen
    refine ⟨by simp, by simp, List.getElem?_set_self hi, fun j g hne hg => ⟨g, by simp only; rw [List.getElem?_set_ne (fun q => hne q.symm)]; exact hg, rfl, rfl, rfl, fun _ => rfl, fun hgu => ?_⟩, fun b a ha => ?_⟩
    · unfold skipF
      rw [if_neg (fun q => hno j g hg hgu q.2)]
    · by_cases eb : b = bkOf t f.key
      · subst eb
        rw [ha0] at ha
        injection ha with ha
        subst ha
        rw [if_pos rfl]
        exact List.getElem?_set_self hb.1
      · rw [if_neg (hother b a ha eb)]
        simp only
        rw [List.getElem?_set_ne (fun q => eb q.symm)]
        exact ha
  · rw [if_neg e]
    refine ⟨rfl, skipTo_length _ _ _ _, by rw [skipTo_get hf, if_pos rfl], fun j g hne hg => ?_, fun b a ha => ?_⟩
    · refine ⟨skipF i f.next g, by rw [skipTo_get hg, if_neg hne, if_pos (getElem?_lt hg)], (skipF_facts _ _ _).1, (skipF_facts _ _ _).2.1, (skipF_facts _ _ _).2.2, fun hgu => ?_, fun _ => rfl⟩
      unfold skipF
      rw [if_neg (fun q => by rw [hgu] at q; cases q.1)]
    · by_cases eb : b = bkOf t f.key
      · subst eb
        rw [ha0] at ha
        injection ha with ha
        subst ha
        rw [if_neg e]
        exact ha0
      · rw [if_neg (hother b a ha eb)]
        exact ha
theorem unlinkT_ok {t : TableD} (h : TableOk t) {i : Nat} {f : FrameD} (hf : t.frames[i]? = some f) (hu : f.used = true) : TableOk (unlinkT t i) := by
  obtain ⟨hlb, hlf, hfree, hoth, hbk⟩ := unlinkT_facts h hf hu
  have T := TOk.of h
  have back : ∀ (j : Nat) (g' : FrameD), (unlinkT t i).frames[j]? = some g' → (j = i ∧ g' = freeF) ∨ (j ≠ i ∧ ∃ g, t.frames[j]? = some g ∧ g'.used = g.used ∧ g'.key = g.key ∧ g'.rights = g.rights ∧ (g.used = false → g' = g)) := by
    intro j g' hg'
    by_cases e : j = i
    · subst e
      rw [hfree] at hg'
      injection hg' with hg'
      exact .inl ⟨rfl, hg'.symm⟩
    · have hlt := getElem?_lt hg'
      rw [hlf] at hlt
      have hg := List.getElem?_eq_getElem hlt
      obtain ⟨g2, h1, h2, h3, h4, h5, _⟩ := hoth j _ e hg
      rw [h1] at hg'
      injection hg' with hg'
      subst hg'
      exact .inr ⟨e, _, hg, h2, h3, h4, h5⟩
  have hch : ∀ {a : Int} {l : List Nat}, Chain t.frames a l → Chain (unlinkT t i).frames (if a = (i : Int) then f.next else a) (l.filter (fun j => decide (j ≠ i))) := fun hc =>
    hc.skip (fun g hg => by rw [hf] at hg; injection hg with hg; rw [hg]) (fun j g hne hg hgu => by
      obtain ⟨g', h1, _, _, _, _, h2⟩ := hoth j g hne hg
      rw [h1, h2 hgu])
  refine TOk.ok ⟨?_, ?_, ?_, ?_⟩
  · unfold TableHead
    rw [hlb, hlf]
    exact h.1
  · intro j g' hj hg'
    rcases back j g' hg' with ⟨rfl, rfl⟩ | ⟨hne, g, hg, h1, h2, h3, h4⟩
    · exact ⟨⟨fun _ => rfl, fun e => by cases e⟩, fun j' g2 _ _ e => by cases e⟩
    · have h5 := h.2.1 j g (getElem?_lt hg) hg
      refine ⟨⟨fun e => ?_, fun e => ?_⟩, fun j' g2 hj' hg2 hu1 hu2 => ?_⟩
      · have e' : g.used = false := by rw [← h1]; exact e
        rw [h4 e']
        exact h5.1.1 e'
      · rw [h2, h3]
        exact h5.1.2 (by rw [← h1]; exact e)
      · rcases back j' g2 hg2 with ⟨rfl, rfl⟩ | ⟨hne', g3, hg3, k1, k2, _⟩
        · cases hu2
        · rw [h2, k2]
          exact h5.2 j' g3 hj' hg3 (by rw [← h1]; exact hu1) (by rw [← k1]; exact hu2)
  · intro b a' ha'
    rw [hlb]
    have hlt := getElem?_lt ha'
    rw [hlb] at hlt
    have ha := List.getElem?_eq_getElem hlt
    rw [hbk b _ ha] at ha'
    injection ha' with ha'
    subst ha'
    obtain ⟨l, hc, hh⟩ := T.ch b _ ha
    refine ⟨_, hch hc, fun j g' hj hg' => ?_⟩
    rw [List.mem_filter] at hj
    rcases back j g' hg' with ⟨rfl, _⟩ | ⟨_, g, hg, _, h2, _⟩
    · simp at hj
    · rw [h2]
      exact hh j g hj.1 hg
  · intro j g' hg' hgu'
    rcases back j g' hg' with ⟨rfl, rfl⟩ | ⟨hne, g, hg, h1, _⟩
    · cases hgu'
    · obtain ⟨b, a, l, ha, hc, hm⟩ := T.met j g hg (by rw [← h1]; exact hgu')
      exact ⟨b, _, _, hbk b a ha, hch hc, List.mem_filter.2 ⟨hm, by simpa using hne⟩⟩
theorem unlinkT_keep {t : TableD} (h : TableOk t) {i : Nat} {f : FrameD} (hf : t.frames[i]? = some f) (hu : f.used = true) {j : Nat} {g : FrameD} (hg : t.frames[j]? = some g) (hne : j ≠ i) : ∃ g', (unlinkT t i).frames[j]? = some g' ∧ g'.used = g.used ∧ g'.key = g.key ∧ g'.rights = g.rights := by
  obtain ⟨_, _, _, hoth, _⟩ := unlinkT_facts h hf hu
  obtain ⟨g', h1, h2, h3, h4, _⟩ := hoth j g hne hg
  exact ⟨g', h1, h2, h3, h4⟩
theorem unlinkT_back {t : TableD} (h : TableOk t) {i : Nat} {f : FrameD} (hf : t.frames[i]? = some f) (hu : f.used = true) {j : Nat} {g' : FrameD} (hg' : (unlinkT t i).frames[j]? = some g') (hgu : g'.used = true) : j ≠ i ∧ ∃ g, t.frames[j]? = some g ∧ g.used = true ∧ g'.key = g.key ∧ g'.rights = g.rights := by
  obtain ⟨_, hlf, hfree, hoth, _⟩ := unlinkT_facts h hf hu
  have hne : j ≠ i := by
    rintro rfl
    rw [hfree] at hg'
    injection hg' with hg'
    subst hg'
    cases hgu
  have hlt := getElem?_lt hg'
  rw [hlf] at hlt
  have hg := List.getElem?_eq_getElem hlt
  obtain ⟨g2, h1, h2, h3, h4, _⟩ := hoth j _ hne hg
  rw [h1] at hg'
  injection hg' with hg'
  subst hg'
  exact ⟨hne, _, hg, by rw [← h2]; exact hgu, h3, h4⟩

/-! ### A new table -/
theorem newTable_ok {f b : Int} (hf : 1 ≤ f ∧ f ≤ 16) (hb : 1 ≤ b ∧ b ≤ 16) : (newTable f b).2 = true ∧ TableOk (newTable f b).1 ∧ (newTable f b).1.frames.length = f.toNat ∧ (newTable f b).1.buckets.length = b.toNat := by
  have e : newTable f b = (⟨List.replicate b.toNat (-1), List.replicate f.toNat freeF⟩, true) := by unfold newTable; rw [if_pos ⟨hf, hb⟩]
  rw [e]
  have hfr : ∀ (i : Nat) (g : FrameD), (List.replicate f.toNat freeF)[i]? = some g → g = freeF := fun i g hg => by
    rw [List.getElem?_replicate] at hg
    split at hg
    · injection hg with hg; exact hg.symm
    · cases hg
  refine ⟨rfl, TOk.ok ⟨?_, ?_, ?_, ?_⟩, by simp, by simp⟩
  · unfold TableHead
    simp only [List.length_replicate]
    omega
  · intro i g hi hg
    have := hfr i g hg
    subst this
    exact ⟨⟨fun _ => rfl, fun e => by cases e⟩, fun j g' _ _ e => by cases e⟩
  · intro i a ha
    simp only [List.getElem?_replicate] at ha
    split at ha
    · injection ha with ha
      subst ha
      exact ⟨[], .nil, fun i f hi => by cases hi⟩
    · cases ha
  · intro i g hg hu
    have := hfr i g hg
    subst this
    cases hu
end Go.Proofs.YtbdlpbladpppjaaGreatDoor
namespace Go.Proofs.YtbdlpbladpppjaaGreatDoor
open Go.ChangeShapes Go.WideShapes Go.ChangeAt Go.RowKit
open Rec (sz cs)
set_option linter.unusedVariables false
set_option maxRecDepth 100000

theorem Bk.ne {α β : Type} [Rec α] [Rec β] {w : World} {E E' : TypeId} {g g' : Nat} {xs : List α} {ys : List β} {r r' : List Value} (h : Bk E w g xs r) (h' : Bk E' w g' ys r') (hE : E ≠ E') : g ≠ g' := by
  rintro rfl
  have h1 : w.heap[g]? = _ := h
  have h2 : w.heap[g]? = _ := h'
  rw [h1] at h2
  injection h2 with h2
  injection h2 with h2 h3
  exact hE h3

/-- That table comes back, in slices of the call's own. -/
def TabIs (q : TableD) (w : World) (e : Ending) (w' : World) : Prop := ∃ (A : Option Addr) (c : Nat) (B : Option Addr) (d : Nat), e = .returned (.agg #[.slice A q.buckets.length c, .slice B q.frames.length d]) ∧ Fr 3 w' w.heap.size A c q.buckets ∧ Fr 45 w' w.heap.size B d q.frames ∧ Ex w w'
/-- That table and that word come back. -/
def TabOr (q : TableD × Bool) (w : World) (e : Ending) (w' : World) : Prop := ∃ (A : Option Addr) (c : Nat) (B : Option Addr) (d : Nat), e = .returned (.tuple #[.agg #[.slice A q.1.buckets.length c, .slice B q.1.frames.length d], .bool q.2]) ∧ Fr 3 w' w.heap.size A c q.1.buckets ∧ Fr 45 w' w.heap.size B d q.1.frames ∧ Ex w w'

set_option maxHeartbeats 4000000 in
theorem l3Map_c (t : TableD) (A : Option Addr) (c : Nat) (B : Option Addr) (d : Nat) (k : KeyD) (i : Nat) (rt : Int) (w : World) (hx : Rd w A t.buckets) (hy : Rd w B t.frames) (hc : t.buckets.length ≤ c) (hd : t.frames.length ≤ d) (hc2 : c ≤ maxLen) (hd2 : d ≤ maxLen)
    (hm1 : 1 ≤ t.buckets.length) (hm2 : t.buckets.length ≤ 16) (hn2 : t.frames.length ≤ 16) (hi : i < t.frames.length) (hk : keyOk k) :
    Calls Tryz.prog 111 #[.agg #[.slice A t.buckets.length c, .slice B t.frames.length d], .agg #[.int .i64 k.space, .int .i64 k.page], .int .i64 i, .int .i64 rt] w (TabIs (linkT t k i rt) w) := by
  obtain ⟨hv1, hv2⟩ := hashK_range (n := t.buckets.length) hk hm1 hm2
  obtain ⟨b, eb⟩ : ∃ b : Nat, hashK k t.buckets.length = (b : Int) := ⟨(hashK k t.buckets.length).toNat, by omega⟩
  have hbm : b < t.buckets.length := by omega
  have HX := zq hx
  have HY := zq hy
  have C1 := zq (fun w' (h : Ex w w') => l3Copy_c t A c B d w' (hx.ex h) (hy.ex h) (by omega) (by omega) hc hd hc2 hd2)
  have CH := zq (fun w => hashS_c k (t.buckets.length : Int) w hk (by omega) (by omega))
  rw [eb] at CH
  have hix := List.getElem?_eq_getElem hi
  have hbx := List.getElem?_eq_getElem hbm
  have HQ : Hid (linkT t k i rt = ⟨t.buckets.set b (i : Int), t.frames.set i ⟨true, k, rt, t.buckets[b]⟩⟩) := zq (by unfold linkT bkOf; rw [eb, Int.toNat_natCast, getD_of hbx])
  have HFIN : Hid (∀ (A' B' : Option Addr) (c' d' : Nat) (w' : World), Fr 3 w' w.heap.size A' c' (t.buckets.set b (i : Int)) → Fr 45 w' w.heap.size B' d' (t.frames.set i ⟨true, k, rt, t.buckets[b]⟩) → Ex w w' → TabIs (linkT t k i rt) w (.returned (.agg #[.slice A' t.buckets.length c', .slice B' t.frames.length d'])) w') := zq (fun A' B' c' d' w' h1 h2 h3 => by rw [HQ.out]; exact ⟨A', c', B', d', by simp, h1, h2, h3⟩)
  clear HQ
  generalize t.frames[i] = f at hix
  generalize t.buckets[b] = x at hbx HFIN
  obtain ⟨xs, ys⟩ := t
  dsimp only at hix hbx C1 CH HFIN hi hbm hm1 hm2 hn2 ⊢
  have HIX := zq hix
  have HBX := zq hbx
  have hi' : (i : Int) < (ys.length : Int) := by omega
  have hb' : (b : Int) < (xs.length : Int) := by omega
  have hi0 : ¬ (i : Int) < 0 := by omega
  have hb0 : ¬ (b : Int) < 0 := by omega
  clear hx hy hv1 hv2 eb hk hix hbx
  go_enter Tryz.func111, Tryz.ntmps111
  go_wp2_with fail
  refine name_calls ?_; intro v1 hv1
  have X1 : Hid (Chg (0) (0) w v1) := zx hv1
  have t1 := X1.out.size
  have Ev1 := zq ((Ex.refl w).chg X1.out (by omega))
  have KX : Hid (Blk v1 (w.heap.size) 26 [.slice A xs.length c, .slice B ys.length d]) := zk hv1
  have lX : w.heap.size < v1.heap.size := KX.out.lt
  have KK : Hid (Blk v1 (w.heap.size + 1) 43 [.int .i64 k.space, .int .i64 k.page]) := zk hv1
  have lK : w.heap.size + 1 < v1.heap.size := KK.out.lt
  have KR : Hid (Blk v1 (w.heap.size + 1 + 1) 26 [.slice none 0 0, .slice none 0 0]) := zk hv1
  have lR : w.heap.size + 1 + 1 < v1.heap.size := KR.out.lt
  clear hv1
  refine (C1.out _ X1.out.ex_).mono ?_; rintro r w1 ⟨A1, c1, B1, d1, rfl, hfa, hfb, hb1⟩
  have Y1 := zq (Chg.of_ex hb1)
  have s1 := Y1.out.size
  have Ew1 := zq (Ev1.out.chg Y1.out (by omega))
  clear hb1
  replace KX := zq (KX.out.chg Y1.out (by omega))
  replace KK := zq (KK.out.chg Y1.out (by omega))
  replace KR := zq (KR.out.chg Y1.out (by omega))
  have HFA := zq hfa; clear hfa
  have WHFA := zq HFA.out.row
  have HFB := zq hfb; clear hfb
  have WHFB := zq HFB.out.row
  obtain ⟨qX0, qX1⟩ := KX.out.c2
  have jX := KX.out.lt
  obtain ⟨qK0, qK1⟩ := KK.out.c2
  have jK := KK.out.lt
  obtain ⟨qR0, qR1⟩ := KR.out.c2
  have jR := KR.out.lt
  have zR := KR.out.frozen
  go_wp2_with fail
  refine name_calls ?_; intro v2 hv2
  have X2 : Hid (Chg (0) (0) w1 v2) := zx hv2
  have t2 := X2.out.size
  have Ev2 := zq (Ew1.out.chg X2.out (by omega))
  clear qX0 qX1 jX
  clear qK0 qK1 jK
  clear qR0 qR1 jR zR
  replace KX := zq (KX.out.chg X2.out (by omega))
  replace KK := zq (KK.out.chg X2.out (by omega))
  replace KR := zq (KR.out.chg X2.out (by omega))
  replace HFA := zq (HFA.out.chg X2.out WHFA.out (by omega))
  replace HFB := zq (HFB.out.chg X2.out WHFB.out (by omega))
  have KO : Hid (Blk v2 (w1.heap.size) 26 [.slice A1 xs.length c1, .slice B1 ys.length d1]) := zk hv2
  have lO : w1.heap.size < v2.heap.size := KO.out.lt
  clear hv2
  refine (CH.out _).mono ?_; rintro r w2 ⟨rfl, hb2⟩
  have Y2 := zq (Chg.of_ex hb2)
  have s2 := Y2.out.size
  have Ew2 := zq (Ev2.out.chg Y2.out (by omega))
  clear hb2
  replace KX := zq (KX.out.chg Y2.out (by omega))
  replace KK := zq (KK.out.chg Y2.out (by omega))
  replace KR := zq (KR.out.chg Y2.out (by omega))
  replace KO := zq (KO.out.chg Y2.out (by omega))
  replace HFA := zq (HFA.out.chg Y2.out WHFA.out (by omega))
  replace HFB := zq (HFB.out.chg Y2.out WHFB.out (by omega))
  obtain ⟨qX0, qX1⟩ := KX.out.c2
  have jX := KX.out.lt
  obtain ⟨qK0, qK1⟩ := KK.out.c2
  have jK := KK.out.lt
  obtain ⟨qR0, qR1⟩ := KR.out.c2
  have jR := KR.out.lt
  have zR := KR.out.frozen
  obtain ⟨qO0, qO1⟩ := KO.out.c2
  have jO := KO.out.lt
  obtain ⟨gb, rb, hA1, hgb, hbb, hrb⟩ := HFA.out.open_ hbm
  obtain ⟨gf, rf, hB1, hgf, hbf, hrf⟩ := HFB.out.open_ hi
  subst hA1 hB1
  have HBB := zq hbb
  have HBF := zq hbf
  have HRB := zq hrb
  have HRF := zq hrf
  have hlb := HFA.out.le
  have hlf := HFB.out.le
  have hcb := HFA.out.cap
  have hcf := HFB.out.cap
  have hgbl : gb < w1.heap.size := (WHFA.out gb (rowOf_some (by omega))).2
  have hgfl : gf < w1.heap.size := (WHFB.out gf (rowOf_some (by omega))).2
  have hne := Bk.ne hbb hbf (by decide)
  have hne' : ¬ gf = gb := fun e => hne e.symm
  clear hbb hbf hrb hrf
  clear HFA WHFA
  clear HFB WHFB
  have v0 := HBB.out.int HBX.out
  obtain ⟨d0, d1', d2', d3, d4⟩ := HBF.out.frame HIX.out
  have zb := HBB.out.frozen
  have zf := HBF.out.frozen
  have lb := Blk.lt HBB.out
  have lf := Blk.lt HBF.out
  have n1 : ¬ w1.heap.size = gf := by omega
  have n2 : ¬ gf = w1.heap.size := by omega
  have n3 : ¬ w1.heap.size = gb := by omega
  have n4 : ¬ gb = w1.heap.size := by omega
  have n5 : ¬ w.heap.size + 1 + 1 = gf := by omega
  have n6 : ¬ gf = w.heap.size + 1 + 1 := by omega
  have n7 : ¬ w.heap.size + 1 + 1 = gb := by omega
  have n8 : ¬ gb = w.heap.size + 1 + 1 := by omega
  have n9 : ¬ w.heap.size + 1 + 1 = w1.heap.size := by omega
  have n10 : ¬ w1.heap.size = w.heap.size + 1 + 1 := by omega
  have n11 : ¬ w.heap.size + 1 = gf := by omega
  have n12 : ¬ gf = w.heap.size + 1 := by omega
  have FK : Hid (∀ w', Ex w2 w' → (w'.cell? ⟨w1.heap.size, 0, none⟩ = some (.slice (some ⟨gb, 0, none⟩) xs.length c1) ∧ w'.cell? ⟨w1.heap.size, 1, none⟩ = some (.slice (some ⟨gf, 0, none⟩) ys.length d1) ∧ w'.cell? ⟨w.heap.size + 1, 0, none⟩ = some (.int .i64 k.space) ∧ w'.cell? ⟨w.heap.size + 1, 1, none⟩ = some (.int .i64 k.page) ∧ w'.cell? ⟨gb, b, none⟩ = some (.int .i64 x))) := zq (fun w' h => ⟨(KO.out.ex h).c2.1, (KO.out.ex h).c2.2, (KK.out.ex h).c2.1, (KK.out.ex h).c2.2, (HBB.out.ex h).int HBX.out⟩)
  go_wp2_with fail
  go_region_held3 (fun w' => (w'.cell? ⟨w1.heap.size, 0, none⟩ = some (.slice (some ⟨gb, 0, none⟩) xs.length c1) ∧ w'.cell? ⟨w1.heap.size, 1, none⟩ = some (.slice (some ⟨gf, 0, none⟩) ys.length d1) ∧ w'.cell? ⟨w.heap.size + 1, 0, none⟩ = some (.int .i64 k.space) ∧ w'.cell? ⟨w.heap.size + 1, 1, none⟩ = some (.int .i64 k.page) ∧ w'.cell? ⟨gb, b, none⟩ = some (.int .i64 x))) (first | (refine FK.out _ ?_; with_reducible (first | exact Ex.refl _ | exact (Ex.refl _).drew)) | go_keep) (fail)
  rename_i hHeld
  clear hHeld
  go_wp2
  refine bodyPost_ret (v := .agg #[.slice (some ⟨gb, 0, none⟩) xs.length c1, .slice (some ⟨gf, 0, none⟩) ys.length d1]) (by first | (simp [results, Tryz.results111, go_sem, *]; done) | (simp [results, Tryz.results111, go_sem, qR0, qR1]; done)) rfl
    (HFIN.out _ _ _ _ _ ?_ ?_ (ze Ew2.out))
  · refine Fr.close (xs := xs.set b (i : Int)) (rest := rb) ?_ (by omega) (by simpa using HRB.out) (by simpa using hlb) hcb
    repeat' (first | with_reducible refine Bk.drew ?_ | with_reducible refine Bk.far ?_ hne _ | with_reducible refine Bk.far ?_ hne' _ | with_reducible refine Bk.far ?_ n8 _ | with_reducible refine Bk.far ?_ n6 _)
    with_reducible refine Bk.set_int ?_ _ hbm
    repeat' (first | with_reducible refine Bk.drew ?_ | with_reducible refine Bk.far ?_ hne _ | with_reducible refine Bk.far ?_ hne' _ | with_reducible refine Bk.far ?_ n8 _ | with_reducible refine Bk.far ?_ n6 _)
    exact HBB.out
  · refine Fr.close (xs := ys.set i ⟨true, k, rt, x⟩) (rest := rf) ?_ (by omega) (by simpa using HRF.out) (by simpa using hlf) hcf
    repeat' (first | with_reducible refine Bk.drew ?_ | with_reducible refine Bk.far ?_ hne _ | with_reducible refine Bk.far ?_ hne' _ | with_reducible refine Bk.far ?_ n8 _ | with_reducible refine Bk.far ?_ n6 _)
    with_reducible refine Bk.set_frame ?_ ⟨true, k, rt, x⟩ hi
    exact HBF.out

def FoundP (q : Int) (w : World) (e : Ending) (w' : World) : Prop := ∃ s : Int, e = .returned (.tuple #[.int .i64 (if q < 0 then 0 else q), .int .i64 s, .bool (decide (0 ≤ q))]) ∧ Ex w w'

set_option maxHeartbeats 2000000 in
theorem findPageS_c (t : TableD) (A : Option Addr) (c : Nat) (B : Option Addr) (d : Nat) (k : KeyD) (w : World) (hx : Rd w A t.buckets) (hy : Rd w B t.frames) (hok : TableOk t) (hk : keyOk k) :
    Calls Tryz.prog 114 #[.agg #[.slice A t.buckets.length c, .slice B t.frames.length d], .agg #[.int .i64 k.space, .int .i64 k.page]] w (FoundP (findF t k) w) := by
  have few := hok.1
  unfold TableHead at few
  have C1 := zq (fun w' (h : Ex w w') => tableS_c t A c B d w' (hx.ex h) (hy.ex h) (by omega) (by omega))
  have C2 := zq (fun w' => keyS_c k w')
  have C3 := zq (fun w' (h : Ex w w') => l3Find_c t A c B d k w' (hx.ex h) (hy.ex h) hok hk)
  rw [tableV_yes hok] at C1
  rw [keyB_iff.2 hk] at C2
  generalize findF t k = q at C3 ⊢
  generalize t.buckets.length = nb at C1 C3 ⊢
  generalize t.frames.length = n at C1 C3 ⊢
  clear hx hy hok hk few
  by_cases hq : q < 0
  · have hz : ¬ 0 ≤ q := by omega
    have HR : Hid (∀ s : Int, (Value.tuple #[.int .i64 0, .int .i64 s, .bool false]) = (.tuple #[.int .i64 (if q < 0 then 0 else q), .int .i64 s, .bool (decide (0 ≤ q))])) := zq (fun s => by rw [if_pos hq, decide_eq_false hz])
    go_enter Tryz.func114, Tryz.ntmps114
    go_wp2_with fail
    refine name_calls ?_; intro v1 hv1
    have X1 : Hid (Chg (0) (0) w v1) := zx hv1
    have t1 := X1.out.size
    have Ev1 := zq ((Ex.refl w).chg X1.out (by omega))
    have KX : Hid (Blk v1 (w.heap.size) 26 [.slice A nb c, .slice B n d]) := zk hv1
    have lX : w.heap.size < v1.heap.size := KX.out.lt
    have KK : Hid (Blk v1 (w.heap.size + 1) 43 [.int .i64 k.space, .int .i64 k.page]) := zk hv1
    have lK : w.heap.size + 1 < v1.heap.size := KK.out.lt
    clear hv1
    refine (C1.out _ Ev1.out).mono ?_; rintro r w1 ⟨rfl, hb1⟩
    have Y1 := zq (Chg.of_ex hb1)
    have s1 := Y1.out.size
    have Ew1 := zq (Ev1.out.chg Y1.out (by omega))
    clear hb1
    replace KX := zq (KX.out.chg Y1.out (by omega))
    replace KK := zq (KK.out.chg Y1.out (by omega))
    obtain ⟨qX0, qX1⟩ := KX.out.c2
    have jX := KX.out.lt
    obtain ⟨qK0, qK1⟩ := KK.out.c2
    have jK := KK.out.lt
    go_wp2_with fail
    refine name_calls ?_; intro v2 hv2
    have X2 : Hid (Chg (0) (0) w1 v2) := zx hv2
    have t2 := X2.out.size
    have Ev2 := zq (Ew1.out.chg X2.out (by omega))
    clear qX0 qX1 jX
    clear qK0 qK1 jK
    replace KX := zq (KX.out.chg X2.out (by omega))
    replace KK := zq (KK.out.chg X2.out (by omega))
    clear hv2
    refine (C2.out _).mono ?_; rintro r w2 ⟨rfl, hb2⟩
    have Y2 := zq (Chg.of_ex hb2)
    have s2 := Y2.out.size
    have Ew2 := zq (Ev2.out.chg Y2.out (by omega))
    clear hb2
    replace KX := zq (KX.out.chg Y2.out (by omega))
    replace KK := zq (KK.out.chg Y2.out (by omega))
    obtain ⟨qX0, qX1⟩ := KX.out.c2
    have jX := KX.out.lt
    obtain ⟨qK0, qK1⟩ := KK.out.c2
    have jK := KK.out.lt
    go_wp2_with fail
    refine name_calls ?_; intro v3 hv3
    have X3 : Hid (Chg (0) (0) w2 v3) := zx hv3
    have t3 := X3.out.size
    have Ev3 := zq (Ew2.out.chg X3.out (by omega))
    clear qX0 qX1 jX
    clear qK0 qK1 jK
    replace KX := zq (KX.out.chg X3.out (by omega))
    replace KK := zq (KK.out.chg X3.out (by omega))
    clear hv3
    refine (C3.out _ Ev3.out).mono ?_; rintro r w3 ⟨⟨sp, rfl⟩, hb3⟩
    have Y3 := zq (Chg.of_ex hb3)
    have s3 := Y3.out.size
    have Ew3 := zq (Ev3.out.chg Y3.out (by omega))
    clear hb3
    replace KX := zq (KX.out.chg Y3.out (by omega))
    replace KK := zq (KK.out.chg Y3.out (by omega))
    obtain ⟨qX0, qX1⟩ := KX.out.c2
    have jX := KX.out.lt
    obtain ⟨qK0, qK1⟩ := KK.out.c2
    have jK := KK.out.lt
    go_wp2
    exact bodyPost_ret (v := .tuple #[.int .i64 0, .int .i64 sp, .bool false]) (by simp [results, Tryz.results114, go_sem]) rfl ⟨sp, by rw [HR.out], Ew3.out⟩
  · have hz : 0 ≤ q := by omega
    have HR : Hid (∀ s : Int, (Value.tuple #[.int .i64 q, .int .i64 s, .bool true]) = (.tuple #[.int .i64 (if q < 0 then 0 else q), .int .i64 s, .bool (decide (0 ≤ q))])) := zq (fun s => by rw [if_neg hq, decide_eq_true hz])
    go_enter Tryz.func114, Tryz.ntmps114
    go_wp2_with fail
    refine name_calls ?_; intro v1 hv1
    have X1 : Hid (Chg (0) (0) w v1) := zx hv1
    have t1 := X1.out.size
    have Ev1 := zq ((Ex.refl w).chg X1.out (by omega))
    have KX : Hid (Blk v1 (w.heap.size) 26 [.slice A nb c, .slice B n d]) := zk hv1
    have lX : w.heap.size < v1.heap.size := KX.out.lt
    have KK : Hid (Blk v1 (w.heap.size + 1) 43 [.int .i64 k.space, .int .i64 k.page]) := zk hv1
    have lK : w.heap.size + 1 < v1.heap.size := KK.out.lt
    clear hv1
    refine (C1.out _ Ev1.out).mono ?_; rintro r w1 ⟨rfl, hb1⟩
    have Y1 := zq (Chg.of_ex hb1)
    have s1 := Y1.out.size
    have Ew1 := zq (Ev1.out.chg Y1.out (by omega))
    clear hb1
    replace KX := zq (KX.out.chg Y1.out (by omega))
    replace KK := zq (KK.out.chg Y1.out (by omega))
    obtain ⟨qX0, qX1⟩ := KX.out.c2
    have jX := KX.out.lt
    obtain ⟨qK0, qK1⟩ := KK.out.c2
    have jK := KK.out.lt
    go_wp2_with fail
    refine name_calls ?_; intro v2 hv2
    have X2 : Hid (Chg (0) (0) w1 v2) := zx hv2
    have t2 := X2.out.size
    have Ev2 := zq (Ew1.out.chg X2.out (by omega))
    clear qX0 qX1 jX
    clear qK0 qK1 jK
    replace KX := zq (KX.out.chg X2.out (by omega))
    replace KK := zq (KK.out.chg X2.out (by omega))
    clear hv2
    refine (C2.out _).mono ?_; rintro r w2 ⟨rfl, hb2⟩
    have Y2 := zq (Chg.of_ex hb2)
    have s2 := Y2.out.size
    have Ew2 := zq (Ev2.out.chg Y2.out (by omega))
    clear hb2
    replace KX := zq (KX.out.chg Y2.out (by omega))
    replace KK := zq (KK.out.chg Y2.out (by omega))
    obtain ⟨qX0, qX1⟩ := KX.out.c2
    have jX := KX.out.lt
    obtain ⟨qK0, qK1⟩ := KK.out.c2
    have jK := KK.out.lt
    go_wp2_with fail
    refine name_calls ?_; intro v3 hv3
    have X3 : Hid (Chg (0) (0) w2 v3) := zx hv3
    have t3 := X3.out.size
    have Ev3 := zq (Ew2.out.chg X3.out (by omega))
    clear qX0 qX1 jX
    clear qK0 qK1 jK
    replace KX := zq (KX.out.chg X3.out (by omega))
    replace KK := zq (KK.out.chg X3.out (by omega))
    clear hv3
    refine (C3.out _ Ev3.out).mono ?_; rintro r w3 ⟨⟨sp, rfl⟩, hb3⟩
    have Y3 := zq (Chg.of_ex hb3)
    have s3 := Y3.out.size
    have Ew3 := zq (Ev3.out.chg Y3.out (by omega))
    clear hb3
    replace KX := zq (KX.out.chg Y3.out (by omega))
    replace KK := zq (KK.out.chg Y3.out (by omega))
    obtain ⟨qX0, qX1⟩ := KX.out.c2
    have jX := KX.out.lt
    obtain ⟨qK0, qK1⟩ := KK.out.c2
    have jK := KK.out.lt
    go_wp2
    exact bodyPost_ret (v := .tuple #[.int .i64 q, .int .i64 sp, .bool true]) (by simp [results, Tryz.results114, go_sem]) rfl ⟨sp, by rw [HR.out], Ew3.out⟩

set_option maxHeartbeats 4000000 in
theorem mapPageS_c (t : TableD) (A : Option Addr) (c : Nat) (B : Option Addr) (d : Nat) (k : KeyD) (i : Nat) (rt : Int) (w : World) (hx : Rd w A t.buckets) (hy : Rd w B t.frames) (hc : t.buckets.length ≤ c) (hd : t.frames.length ≤ d) (hc2 : c ≤ maxLen) (hd2 : d ≤ maxLen)
    (hok : TableOk t) (hk : keyOk k) (hr : 0 ≤ rt ∧ rt < 8) (hi : i < t.frames.length) :
    Calls Tryz.prog 102 #[.agg #[.slice A t.buckets.length c, .slice B t.frames.length d], .agg #[.int .i64 k.space, .int .i64 k.page], .int .i64 i, .int .i64 rt] w (TabOr (mapT t k i rt) w) := by
  have few := hok.1
  unfold TableHead at few
  have C1 := zq (fun w' (h : Ex w w') => tableS_c t A c B d w' (hx.ex h) (hy.ex h) (by omega) (by omega))
  have C2 := zq (fun w' => keyS_c k w')
  have C3 := zq (fun w' => rightsS_c rt w')
  have C4 := zq (fun w' (h : Ex w w') => l3Find_c t A c B d k w' (hx.ex h) (hy.ex h) hok hk)
  have C5 := zq (fun w' (h : Ex w w') => l3Map_c t A c B d k i rt w' (hx.ex h) (hy.ex h) hc hd hc2 hd2 (by omega) (by omega) (by omega) hi hk)
  rw [tableV_yes hok] at C1
  rw [keyB_iff.2 hk] at C2
  rw [inB_true.2 hr] at C3
  obtain ⟨b2, o2, f, rfl, hb2, hfi, k0, k1, k2, k3, k4⟩ := hy.frame hi
  have HF := zq hfi
  have PK : Hid (∀ w', Ex w w' → w'.cell? ⟨b2, o2 + i * 5, none⟩ = some (.bool f.used)) := zq (fun w' h => (h.cell hb2).trans k0)
  have HP : Hid (putsT t k i = (!f.used && decide (findF t k < 0))) := zq (by unfold putsT; rw [getD_of hfi])
  have hi' : ¬ ((t.frames.length : Int) ≤ (i : Int)) := by omega
  have hi2 : (i : Int) < (t.frames.length : Int) := by omega
  have hi0 : ¬ (i : Int) < 0 := by omega
  clear hx hy hok hk hr k0 k1 k2 k3 k4 hfi
  generalize hlb : linkT t k i rt = lt at C5
  have HLT := zq hlb
  clear hlb
  generalize t.buckets.length = nb at C1 C4 C5 few hc ⊢
  generalize t.frames.length = n at C1 C4 C5 few hd hi hi' hi2 ⊢
  cases hu : f.used
  rotate_left
  · have HN : Hid (mapT t k i rt = (noTable, false)) := zq (by unfold mapT; rw [HP.out, hu]; rfl)
    rw [hu] at PK
    rw [HN.out]
    clear hu
    go_enter Tryz.func102, Tryz.ntmps102
    go_wp2_with fail
    refine name_calls ?_; intro v1 hv1
    have X1 : Hid (Chg (0) (0) w v1) := zx hv1
    have t1 := X1.out.size
    have Ev1 := zq ((Ex.refl w).chg X1.out (by omega))
    have KX : Hid (Blk v1 (w.heap.size) 26 [.slice A nb c, .slice (some ⟨b2, o2, none⟩) n d]) := zk hv1
    have lX : w.heap.size < v1.heap.size := KX.out.lt
    have KK : Hid (Blk v1 (w.heap.size + 1) 43 [.int .i64 k.space, .int .i64 k.page]) := zk hv1
    have lK : w.heap.size + 1 < v1.heap.size := KK.out.lt
    have KR : Hid (Blk v1 (w.heap.size + 1 + 1) 26 [.slice none 0 0, .slice none 0 0]) := zk hv1
    have lR : w.heap.size + 1 + 1 < v1.heap.size := KR.out.lt
    clear hv1
    refine (C1.out _ Ev1.out).mono ?_; rintro r w1 ⟨rfl, hb1⟩
    have Y1 := zq (Chg.of_ex hb1)
    have s1 := Y1.out.size
    have Ew1 := zq (Ev1.out.chg Y1.out (by omega))
    clear hb1
    replace KX := zq (KX.out.chg Y1.out (by omega))
    replace KK := zq (KK.out.chg Y1.out (by omega))
    replace KR := zq (KR.out.chg Y1.out (by omega))
    obtain ⟨qX0, qX1⟩ := KX.out.c2
    have jX := KX.out.lt
    obtain ⟨qK0, qK1⟩ := KK.out.c2
    have jK := KK.out.lt
    obtain ⟨qR0, qR1⟩ := KR.out.c2
    have jR := KR.out.lt
    have zR := KR.out.frozen
    go_wp2_with fail
    refine name_calls ?_; intro v2 hv2
    have X2 : Hid (Chg (0) (0) w1 v2) := zx hv2
    have t2 := X2.out.size
    have Ev2 := zq (Ew1.out.chg X2.out (by omega))
    clear qX0 qX1 jX
    clear qK0 qK1 jK
    clear qR0 qR1 jR zR
    replace KX := zq (KX.out.chg X2.out (by omega))
    replace KK := zq (KK.out.chg X2.out (by omega))
    replace KR := zq (KR.out.chg X2.out (by omega))
    clear hv2
    refine (C2.out _).mono ?_; rintro r w2 ⟨rfl, hb2⟩
    have Y2 := zq (Chg.of_ex hb2)
    have s2 := Y2.out.size
    have Ew2 := zq (Ev2.out.chg Y2.out (by omega))
    clear hb2
    replace KX := zq (KX.out.chg Y2.out (by omega))
    replace KK := zq (KK.out.chg Y2.out (by omega))
    replace KR := zq (KR.out.chg Y2.out (by omega))
    obtain ⟨qX0, qX1⟩ := KX.out.c2
    have jX := KX.out.lt
    obtain ⟨qK0, qK1⟩ := KK.out.c2
    have jK := KK.out.lt
    obtain ⟨qR0, qR1⟩ := KR.out.c2
    have jR := KR.out.lt
    have zR := KR.out.frozen
    go_wp2_with fail
    refine (C3.out _).mono ?_; rintro r wq3 ⟨rfl, rfl⟩
    have p0 := PK.out _ Ew2.out
    go_wp2
    exact bodyPost_ret (v := .tuple #[.agg #[.slice none 0 0, .slice none 0 0], .bool false]) (by simp [results, Tryz.results102, go_sem, qR0, qR1]) rfl
      ⟨none, 0, none, 0, rfl, Fr.none_ _ _ _ _, Fr.none_ _ _ _ _, (ze Ew2.out)⟩
  rw [hu] at PK
  by_cases hq : findF t k < 0
  · have HN : Hid (mapT t k i rt = (lt, true)) := zq (by unfold mapT; rw [HP.out, hu, decide_eq_true hq, HLT.out]; rfl)
    rw [HN.out]
    have hq' : ¬ 0 ≤ findF t k := by omega
    generalize findF t k = q at C4 hq hq'
    clear hu
    go_enter Tryz.func102, Tryz.ntmps102
    go_wp2_with fail
    refine name_calls ?_; intro v1 hv1
    have X1 : Hid (Chg (0) (0) w v1) := zx hv1
    have t1 := X1.out.size
    have Ev1 := zq ((Ex.refl w).chg X1.out (by omega))
    have KX : Hid (Blk v1 (w.heap.size) 26 [.slice A nb c, .slice (some ⟨b2, o2, none⟩) n d]) := zk hv1
    have lX : w.heap.size < v1.heap.size := KX.out.lt
    have KK : Hid (Blk v1 (w.heap.size + 1) 43 [.int .i64 k.space, .int .i64 k.page]) := zk hv1
    have lK : w.heap.size + 1 < v1.heap.size := KK.out.lt
    have KR : Hid (Blk v1 (w.heap.size + 1 + 1) 26 [.slice none 0 0, .slice none 0 0]) := zk hv1
    have lR : w.heap.size + 1 + 1 < v1.heap.size := KR.out.lt
    clear hv1
    refine (C1.out _ Ev1.out).mono ?_; rintro r w1 ⟨rfl, hb1⟩
    have Y1 := zq (Chg.of_ex hb1)
    have s1 := Y1.out.size
    have Ew1 := zq (Ev1.out.chg Y1.out (by omega))
    clear hb1
    replace KX := zq (KX.out.chg Y1.out (by omega))
    replace KK := zq (KK.out.chg Y1.out (by omega))
    replace KR := zq (KR.out.chg Y1.out (by omega))
    obtain ⟨qX0, qX1⟩ := KX.out.c2
    have jX := KX.out.lt
    obtain ⟨qK0, qK1⟩ := KK.out.c2
    have jK := KK.out.lt
    obtain ⟨qR0, qR1⟩ := KR.out.c2
    have jR := KR.out.lt
    have zR := KR.out.frozen
    go_wp2_with fail
    refine name_calls ?_; intro v2 hv2
    have X2 : Hid (Chg (0) (0) w1 v2) := zx hv2
    have t2 := X2.out.size
    have Ev2 := zq (Ew1.out.chg X2.out (by omega))
    clear qX0 qX1 jX
    clear qK0 qK1 jK
    clear qR0 qR1 jR zR
    replace KX := zq (KX.out.chg X2.out (by omega))
    replace KK := zq (KK.out.chg X2.out (by omega))
    replace KR := zq (KR.out.chg X2.out (by omega))
    clear hv2
    refine (C2.out _).mono ?_; rintro r w2 ⟨rfl, hb2⟩
    have Y2 := zq (Chg.of_ex hb2)
    have s2 := Y2.out.size
    have Ew2 := zq (Ev2.out.chg Y2.out (by omega))
    clear hb2
    replace KX := zq (KX.out.chg Y2.out (by omega))
    replace KK := zq (KK.out.chg Y2.out (by omega))
    replace KR := zq (KR.out.chg Y2.out (by omega))
    obtain ⟨qX0, qX1⟩ := KX.out.c2
    have jX := KX.out.lt
    obtain ⟨qK0, qK1⟩ := KK.out.c2
    have jK := KK.out.lt
    obtain ⟨qR0, qR1⟩ := KR.out.c2
    have jR := KR.out.lt
    have zR := KR.out.frozen
    go_wp2_with fail
    refine (C3.out _).mono ?_; rintro r wq3 ⟨rfl, rfl⟩
    have p0 := PK.out _ Ew2.out
    go_wp2_with fail
    refine name_calls ?_; intro v4 hv4
    have X4 : Hid (Chg (0) (0) w2 v4) := zx hv4
    have t4 := X4.out.size
    have Ev4 := zq (Ew2.out.chg X4.out (by omega))
    clear qX0 qX1 jX
    clear qK0 qK1 jK
    clear qR0 qR1 jR zR
    replace KX := zq (KX.out.chg X4.out (by omega))
    replace KK := zq (KK.out.chg X4.out (by omega))
    replace KR := zq (KR.out.chg X4.out (by omega))
    clear hv4
    refine (C4.out _ Ev4.out).mono ?_; rintro r w4 ⟨⟨sp, rfl⟩, hb4⟩
    have Y4 := zq (Chg.of_ex hb4)
    have s4 := Y4.out.size
    have Ew4 := zq (Ev4.out.chg Y4.out (by omega))
    clear hb4
    replace KX := zq (KX.out.chg Y4.out (by omega))
    replace KK := zq (KK.out.chg Y4.out (by omega))
    replace KR := zq (KR.out.chg Y4.out (by omega))
    obtain ⟨qX0, qX1⟩ := KX.out.c2
    have jX := KX.out.lt
    obtain ⟨qK0, qK1⟩ := KK.out.c2
    have jK := KK.out.lt
    obtain ⟨qR0, qR1⟩ := KR.out.c2
    have jR := KR.out.lt
    have zR := KR.out.frozen
    go_wp2_with fail
    refine name_calls ?_; intro v5 hv5
    have X5 : Hid (Chg (0) (0) w4 v5) := zx hv5
    have t5 := X5.out.size
    have Ev5 := zq (Ew4.out.chg X5.out (by omega))
    clear qX0 qX1 jX
    clear qK0 qK1 jK
    clear qR0 qR1 jR zR
    replace KX := zq (KX.out.chg X5.out (by omega))
    replace KK := zq (KK.out.chg X5.out (by omega))
    replace KR := zq (KR.out.chg X5.out (by omega))
    clear hv5
    refine (C5.out _ Ev5.out).mono ?_; rintro r w5 ⟨A5, c5, B5, d5, rfl, hfa, hfb, hb5⟩
    have Y5 := zq (Chg.of_ex hb5)
    have s5 := Y5.out.size
    have Ew5 := zq (Ev5.out.chg Y5.out (by omega))
    clear hb5
    replace KX := zq (KX.out.chg Y5.out (by omega))
    replace KK := zq (KK.out.chg Y5.out (by omega))
    replace KR := zq (KR.out.chg Y5.out (by omega))
    have HFA := zq hfa; clear hfa
    have WHFA := zq HFA.out.row
    have HFB := zq hfb; clear hfb
    have WHFB := zq HFB.out.row
    obtain ⟨qX0, qX1⟩ := KX.out.c2
    have jX := KX.out.lt
    obtain ⟨qK0, qK1⟩ := KK.out.c2
    have jK := KK.out.lt
    obtain ⟨qR0, qR1⟩ := KR.out.c2
    have jR := KR.out.lt
    have zR := KR.out.frozen
    go_wp2
    exact bodyPost_ret (v := .tuple #[.agg #[.slice A5 lt.buckets.length c5, .slice B5 lt.frames.length d5], .bool true]) (by simp [results, Tryz.results102, go_sem, qR0, qR1]) rfl
      ⟨A5, c5, B5, d5, rfl, Fr.mono (B := v5.heap.size) (zp HFA.out WHFA.out) (by omega), Fr.mono (B := v5.heap.size) (zp HFB.out WHFB.out) (by omega), (ze Ew5.out)⟩
  · have HN : Hid (mapT t k i rt = (noTable, false)) := zq (by unfold mapT; rw [HP.out, hu, decide_eq_false hq]; rfl)
    rw [HN.out]
    have hq' : 0 ≤ findF t k := by omega
    generalize findF t k = q at C4 hq hq'
    clear hu
    go_enter Tryz.func102, Tryz.ntmps102
    go_wp2_with fail
    refine name_calls ?_; intro v1 hv1
    have X1 : Hid (Chg (0) (0) w v1) := zx hv1
    have t1 := X1.out.size
    have Ev1 := zq ((Ex.refl w).chg X1.out (by omega))
    have KX : Hid (Blk v1 (w.heap.size) 26 [.slice A nb c, .slice (some ⟨b2, o2, none⟩) n d]) := zk hv1
    have lX : w.heap.size < v1.heap.size := KX.out.lt
    have KK : Hid (Blk v1 (w.heap.size + 1) 43 [.int .i64 k.space, .int .i64 k.page]) := zk hv1
    have lK : w.heap.size + 1 < v1.heap.size := KK.out.lt
    have KR : Hid (Blk v1 (w.heap.size + 1 + 1) 26 [.slice none 0 0, .slice none 0 0]) := zk hv1
    have lR : w.heap.size + 1 + 1 < v1.heap.size := KR.out.lt
    clear hv1
    refine (C1.out _ Ev1.out).mono ?_; rintro r w1 ⟨rfl, hb1⟩
    have Y1 := zq (Chg.of_ex hb1)
    have s1 := Y1.out.size
    have Ew1 := zq (Ev1.out.chg Y1.out (by omega))
    clear hb1
    replace KX := zq (KX.out.chg Y1.out (by omega))
    replace KK := zq (KK.out.chg Y1.out (by omega))
    replace KR := zq (KR.out.chg Y1.out (by omega))
    obtain ⟨qX0, qX1⟩ := KX.out.c2
    have jX := KX.out.lt
    obtain ⟨qK0, qK1⟩ := KK.out.c2
    have jK := KK.out.lt
    obtain ⟨qR0, qR1⟩ := KR.out.c2
    have jR := KR.out.lt
    have zR := KR.out.frozen
    go_wp2_with fail
    refine name_calls ?_; intro v2 hv2
    have X2 : Hid (Chg (0) (0) w1 v2) := zx hv2
    have t2 := X2.out.size
    have Ev2 := zq (Ew1.out.chg X2.out (by omega))
    clear qX0 qX1 jX
    clear qK0 qK1 jK
    clear qR0 qR1 jR zR
    replace KX := zq (KX.out.chg X2.out (by omega))
    replace KK := zq (KK.out.chg X2.out (by omega))
    replace KR := zq (KR.out.chg X2.out (by omega))
    clear hv2
    refine (C2.out _).mono ?_; rintro r w2 ⟨rfl, hb2⟩
    have Y2 := zq (Chg.of_ex hb2)
    have s2 := Y2.out.size
    have Ew2 := zq (Ev2.out.chg Y2.out (by omega))
    clear hb2
    replace KX := zq (KX.out.chg Y2.out (by omega))
    replace KK := zq (KK.out.chg Y2.out (by omega))
    replace KR := zq (KR.out.chg Y2.out (by omega))
    obtain ⟨qX0, qX1⟩ := KX.out.c2
    have jX := KX.out.lt
    obtain ⟨qK0, qK1⟩ := KK.out.c2
    have jK := KK.out.lt
    obtain ⟨qR0, qR1⟩ := KR.out.c2
    have jR := KR.out.lt
    have zR := KR.out.frozen
    go_wp2_with fail
    refine (C3.out _).mono ?_; rintro r wq3 ⟨rfl, rfl⟩
    have p0 := PK.out _ Ew2.out
    go_wp2_with fail
    refine name_calls ?_; intro v4 hv4
    have X4 : Hid (Chg (0) (0) w2 v4) := zx hv4
    have t4 := X4.out.size
    have Ev4 := zq (Ew2.out.chg X4.out (by omega))
    clear qX0 qX1 jX
    clear qK0 qK1 jK
    clear qR0 qR1 jR zR
    replace KX := zq (KX.out.chg X4.out (by omega))
    replace KK := zq (KK.out.chg X4.out (by omega))
    replace KR := zq (KR.out.chg X4.out (by omega))
    clear hv4
    refine (C4.out _ Ev4.out).mono ?_; rintro r w4 ⟨⟨sp, rfl⟩, hb4⟩
    have Y4 := zq (Chg.of_ex hb4)
    have s4 := Y4.out.size
    have Ew4 := zq (Ev4.out.chg Y4.out (by omega))
    clear hb4
    replace KX := zq (KX.out.chg Y4.out (by omega))
    replace KK := zq (KK.out.chg Y4.out (by omega))
    replace KR := zq (KR.out.chg Y4.out (by omega))
    obtain ⟨qX0, qX1⟩ := KX.out.c2
    have jX := KX.out.lt
    obtain ⟨qK0, qK1⟩ := KK.out.c2
    have jK := KK.out.lt
    obtain ⟨qR0, qR1⟩ := KR.out.c2
    have jR := KR.out.lt
    have zR := KR.out.frozen
    go_wp2
    exact bodyPost_ret (v := .tuple #[.agg #[.slice none 0 0, .slice none 0 0], .bool false]) (by simp [results, Tryz.results102, go_sem, qR0, qR1]) rfl
      ⟨none, 0, none, 0, rfl, Fr.none_ _ _ _ _, Fr.none_ _ _ _ _, (ze Ew4.out)⟩

theorem skipTo_none {fs : List FrameD} {i : Nat} {nx : Int} {n j : Nat} (h : fs[j]? = none) : (skipTo fs i nx n)[j]? = none := by
  unfold skipTo; rw [List.getElem?_mapIdx, h]; rfl
theorem skipTo_zero (fs : List FrameD) (i : Nat) (nx : Int) : skipTo fs i nx 0 = fs.set i freeF := by
  refine List.ext_getElem? fun j => ?_
  cases h : fs[j]? with
  | none =>
    rw [skipTo_none h]
    have : fs.length ≤ j := List.getElem?_eq_none_iff.1 h
    exact (List.getElem?_eq_none (by simpa using this)).symm
  | some f =>
    rw [skipTo_get h, List.getElem?_set]
    by_cases e : i = j
    · subst e; rw [if_pos rfl, if_pos rfl, if_pos (getElem?_lt h)]
    · rw [if_neg (fun h => e h.symm), if_neg e, h, if_neg (by omega)]
theorem skipTo_keep {fs : List FrameD} {i : Nat} {nx : Int} {k : Nat} {y : FrameD} (hy : fs[k]? = some y) (h : k = i ∨ ¬ (y.used = true ∧ y.next = (i : Int))) : skipTo fs i nx (k + 1) = skipTo fs i nx k := by
  refine List.ext_getElem? fun j => ?_
  cases hj : fs[j]? with
  | none => rw [skipTo_none hj, skipTo_none hj]
  | some f =>
    rw [skipTo_get hj, skipTo_get hj]
    by_cases e : j = i
    · rw [if_pos e, if_pos e]
    rw [if_neg e, if_neg e]
    by_cases e2 : j = k
    · subst e2
      rw [hy] at hj
      injection hj with hj
      subst hj
      rw [if_pos (by omega), if_neg (by omega)]
      unfold skipF
      rw [if_neg (by rcases h with h | h; exact absurd h e; exact h)]
    · by_cases e3 : j < k
      · rw [if_pos (by omega), if_pos e3]
      · rw [if_neg (by omega), if_neg e3]
theorem skipTo_put {fs : List FrameD} {i : Nat} {nx : Int} {k : Nat} {y : FrameD} (hy : fs[k]? = some y) (hk : k ≠ i) (hu : y.used = true) (hn : y.next = (i : Int)) : skipTo fs i nx (k + 1) = (skipTo fs i nx k).set k { y with next := nx } := by
  refine List.ext_getElem? fun j => ?_
  cases hj : fs[j]? with
  | none =>
    rw [skipTo_none hj]
    have : fs.length ≤ j := List.getElem?_eq_none_iff.1 hj
    exact (List.getElem?_eq_none (by rw [List.length_set, skipTo_length]; exact this)).symm
  | some f =>
    rw [skipTo_get hj, List.getElem?_set, skipTo_length]
    by_cases e2 : k = j
    · subst e2
      rw [hy] at hj
      injection hj with hj
      subst hj
      rw [if_neg hk, if_pos (by omega), if_pos rfl, if_pos (getElem?_lt hy)]
      unfold skipF
      rw [if_pos ⟨hu, hn⟩]
    · rw [if_neg e2, skipTo_get hj]
      by_cases e : j = i
      · rw [if_pos e, if_pos e]
      rw [if_neg e, if_neg e]
      by_cases e3 : j < k
      · rw [if_pos (by omega), if_pos e3]
      · rw [if_neg (by omega), if_neg e3]
/-- No used frame of a valid table is its own next. -/
theorem TableOk.noself {t : TableD} (h : TableOk t) {i : Nat} {f : FrameD} (hf : t.frames[i]? = some f) (hu : f.used = true) : f.next ≠ (i : Int) := fun e => by
  obtain ⟨b, a, l, _, hc, hi, _⟩ := h.met hf hu
  obtain ⟨l2, h1, _⟩ := hc.from hi
  rcases h1.inv with ⟨q, _⟩ | ⟨j, g, l3, q, q2, hg, _, hl3⟩
  · omega
  · have e3 : i = j := by omega
    subst e3
    rw [hf] at hg
    injection hg with hg
    subst hg
    rw [e] at hl3
    have h4 := congrArg List.length (h1.one hl3)
    injection q2 with _ q2
    rw [q2] at h4
    simp at h4

set_option maxHeartbeats 4000000 in
theorem l3Unmap_c (t : TableD) (A : Option Addr) (c : Nat) (B : Option Addr) (d : Nat) (i : Nat) (f : FrameD) (w : World) (hx : Rd w A t.buckets) (hy : Rd w B t.frames) (hc : t.buckets.length ≤ c) (hd : t.frames.length ≤ d) (hc2 : c ≤ maxLen) (hd2 : d ≤ maxLen)
    (hok : TableOk t) (hf : t.frames[i]? = some f) (hu : f.used = true) :
    Calls Tryz.prog 115 #[.agg #[.slice A t.buckets.length c, .slice B t.frames.length d], .int .i64 i] w (TabIs (unlinkT t i) w) := by
  have few := hok.1
  unfold TableHead at few
  have hi := getElem?_lt hf
  have hk : keyOk f.key := (((hok.2.1 i f hi hf).1).2 hu).1
  obtain ⟨hv1, hv2⟩ := hashK_range (n := t.buckets.length) hk (by omega) (by omega)
  obtain ⟨b, eb⟩ : ∃ b : Nat, hashK f.key t.buckets.length = (b : Int) := ⟨(hashK f.key t.buckets.length).toNat, by omega⟩
  have hbm : b < t.buckets.length := by omega
  have HSELF : Hid (f.next ≠ (i : Int)) := zq (hok.noself hf hu)
  have HY := zq hy
  have C1 := zq (fun w' (h : Ex w w') => l3Copy_c t A c B d w' (hx.ex h) (hy.ex h) (by omega) (by omega) hc hd hc2 hd2)
  have CH := zq (fun w => hashS_c f.key (t.buckets.length : Int) w hk (by omega) (by omega))
  rw [eb] at CH
  obtain ⟨b2, o2, f', rfl, hb2, hfi, k0, k1, k2, k3, k4⟩ := hy.frame hi
  obtain ⟨b1, o1, x, rfl, hb1, hbx, l0⟩ := hx.int hbm
  obtain rfl : f' = f := by rw [hf] at hfi; injection hfi with hfi; exact hfi.symm
  have PF : Hid (∀ w', Ex w w' → (w'.cell? ⟨b2, o2 + i * 5 + 1, none⟩ = some (.int .i64 f'.key.space) ∧ w'.cell? ⟨b2, o2 + i * 5 + 2, none⟩ = some (.int .i64 f'.key.page) ∧ w'.cell? ⟨b2, o2 + i * 5 + 4, none⟩ = some (.int .i64 f'.next) ∧ w'.cell? ⟨b1, o1 + b, none⟩ = some (.int .i64 x))) := zq (fun w' h => ⟨(h.cell hb2).trans k1, (h.cell hb2).trans k2, (h.cell hb2).trans k4, (h.cell hb1).trans l0⟩)
  have HQ1 : Hid (x = (i : Int) → unlinkT t i = ⟨t.buckets.set b f'.next, t.frames.set i freeF⟩) := zq (fun e => by unfold unlinkT bkOf; rw [getD_of hf, eb, Int.toNat_natCast, getD_of hbx, if_pos e])
  have HQ2 : Hid (x ≠ (i : Int) → unlinkT t i = ⟨t.buckets, skipTo t.frames i f'.next t.frames.length⟩) := zq (fun e => by unfold unlinkT bkOf; rw [getD_of hf, eb, Int.toNat_natCast, getD_of hbx, if_neg e])
  have HIX := zq hf
  have HBX := zq hbx
  have HFI := zq hfi
  obtain ⟨xs, ys⟩ := t
  dsimp only at HY C1 CH HQ1 HQ2 HIX HBX hi hbm few ⊢
  have HFIN : Hid (∀ (q : TableD) (A' B' : Option Addr) (c' d' : Nat) (w' : World), unlinkT ⟨xs, ys⟩ i = q → q.buckets.length = xs.length → q.frames.length = ys.length → Fr 3 w' w.heap.size A' c' q.buckets → Fr 45 w' w.heap.size B' d' q.frames → Ex w w' → TabIs (unlinkT ⟨xs, ys⟩ i) w (.returned (.agg #[.slice A' xs.length c', .slice B' ys.length d'])) w') := zq (fun q A' B' c' d' w' h1 e1 e2 h2 h3 h4 => by rw [h1]; exact ⟨A', c', B', d', by rw [e1, e2], h2, h3, h4⟩)
  have hi' : (i : Int) < (ys.length : Int) := by omega
  have hb' : (b : Int) < (xs.length : Int) := by omega
  have hi0 : ¬ (i : Int) < 0 := by omega
  have hb0 : ¬ (b : Int) < 0 := by omega
  have HXL : Hid (ys.length ≤ 16 ∧ 1 ≤ ys.length) := zq (by omega)
  clear hx hy k0 k1 k2 k3 k4 l0 hok few hu hk hv1 hv2 eb hf hbx hfi hc hd hc2 hd2
  go_enter Tryz.func115, Tryz.ntmps115
  go_wp2_with fail
  refine name_calls ?_; intro v1 hv1
  have X1 : Hid (Chg (0) (0) w v1) := zx hv1
  have t1 := X1.out.size
  have Ev1 := zq ((Ex.refl w).chg X1.out (by omega))
  have KX : Hid (Blk v1 (w.heap.size) 26 [.slice (some ⟨b1, o1, none⟩) xs.length c, .slice (some ⟨b2, o2, none⟩) ys.length d]) := zk hv1
  have lX : w.heap.size < v1.heap.size := KX.out.lt
  have KR : Hid (Blk v1 (w.heap.size + 1) 26 [.slice none 0 0, .slice none 0 0]) := zk hv1
  have lR : w.heap.size + 1 < v1.heap.size := KR.out.lt
  clear hv1
  refine (C1.out _ Ev1.out).mono ?_; rintro r w1 ⟨A1, c1, B1, d1, rfl, hfa, hfb, hb1⟩
  have Y1 := zq (Chg.of_ex hb1)
  have s1 := Y1.out.size
  have Ew1 := zq (Ev1.out.chg Y1.out (by omega))
  clear hb1
  replace KX := zq (KX.out.chg Y1.out (by omega))
  replace KR := zq (KR.out.chg Y1.out (by omega))
  have HFA := zq hfa; clear hfa
  have WHFA := zq HFA.out.row
  have HFB := zq hfb; clear hfb
  have WHFB := zq HFB.out.row
  obtain ⟨qX0, qX1⟩ := KX.out.c2
  have jX := KX.out.lt
  obtain ⟨qR0, qR1⟩ := KR.out.c2
  have jR := KR.out.lt
  have zR := KR.out.frozen
  go_wp2_with fail
  obtain ⟨w2, hw2⟩ : ∃ w2 : World, w2 = w1.alloc (.cells #[.slice A1 xs.length c1, .slice B1 ys.length d1] 26) := ⟨_, rfl⟩
  have Y2 : Hid (Chg 0 0 w1 w2) := zq (by rw [hw2]; exact (Chg.refl _ _ _).alloc _)
  have KO : Hid (Blk w2 w1.heap.size 26 [.slice A1 xs.length c1, .slice B1 ys.length d1]) := zq (by rw [hw2]; exact Blk.new _ _ _)
  rw [← hw2]
  clear hw2
  have s2 := Y2.out.size
  have Ew2 := zq (Ew1.out.chg Y2.out (by omega))
  clear qX0 qX1 jX
  clear qR0 qR1 jR zR
  replace KX := zq (KX.out.chg Y2.out (by omega))
  replace KR := zq (KR.out.chg Y2.out (by omega))
  replace HFA := zq (HFA.out.chg Y2.out WHFA.out (by omega))
  replace HFB := zq (HFB.out.chg Y2.out WHFB.out (by omega))
  obtain ⟨qX0, qX1⟩ := KX.out.c2
  have jX := KX.out.lt
  obtain ⟨qR0, qR1⟩ := KR.out.c2
  have jR := KR.out.lt
  have zR := KR.out.frozen
  obtain ⟨qO0, qO1⟩ := KO.out.c2
  have jO := KO.out.lt
  have FK : Hid (∀ w', Ex w2 w' → (w'.cell? ⟨w.heap.size, 0, none⟩ = some (.slice (some ⟨b1, o1, none⟩) xs.length c) ∧ w'.cell? ⟨w.heap.size, 1, none⟩ = some (.slice (some ⟨b2, o2, none⟩) ys.length d) ∧ w'.cell? ⟨b2, o2 + i * 5 + 1, none⟩ = some (.int .i64 f'.key.space) ∧ w'.cell? ⟨b2, o2 + i * 5 + 2, none⟩ = some (.int .i64 f'.key.page))) := zq (fun w' h => ⟨(KX.out.ex h).c2.1, (KX.out.ex h).c2.2, (PF.out w' (Ew2.out.trans h)).1, (PF.out w' (Ew2.out.trans h)).2.1⟩)
  go_region_held3 (fun w' => (w'.cell? ⟨w.heap.size, 0, none⟩ = some (.slice (some ⟨b1, o1, none⟩) xs.length c) ∧ w'.cell? ⟨w.heap.size, 1, none⟩ = some (.slice (some ⟨b2, o2, none⟩) ys.length d) ∧ w'.cell? ⟨b2, o2 + i * 5 + 1, none⟩ = some (.int .i64 f'.key.space) ∧ w'.cell? ⟨b2, o2 + i * 5 + 2, none⟩ = some (.int .i64 f'.key.page))) (first | (refine FK.out _ ?_; with_reducible (first | exact Ex.refl _ | exact (Ex.refl _).drew | exact hE1)) | go_keep) (first
    | (go_at_call 75; (with_reducible refine (CH.out _).mono ?_); rintro r w3 ⟨rfl, hb3⟩; have hE1 := Ex.trans (Ex.refl _).drew hb3))
  rename_i hHeld
  have Y3 := zq (Chg.of_ex hE1)
  clear hHeld hb3 hE1
  have s3 := Y3.out.size
  have Ew3 := zq (Ew2.out.chg Y3.out (by omega))
  clear qX0 qX1 jX
  clear qR0 qR1 jR zR
  clear qO0 qO1 jO
  replace KX := zq (KX.out.chg Y3.out (by omega))
  replace KR := zq (KR.out.chg Y3.out (by omega))
  replace KO := zq (KO.out.chg Y3.out (by omega))
  replace HFA := zq (HFA.out.chg Y3.out WHFA.out (by omega))
  replace HFB := zq (HFB.out.chg Y3.out WHFB.out (by omega))
  obtain ⟨qX0, qX1⟩ := KX.out.c2
  have jX := KX.out.lt
  obtain ⟨qR0, qR1⟩ := KR.out.c2
  have jR := KR.out.lt
  have zR := KR.out.frozen
  obtain ⟨qO0, qO1⟩ := KO.out.c2
  have jO := KO.out.lt
  obtain ⟨p1, p2, p3, p4⟩ := PF.out w3 Ew3.out
  obtain ⟨gb, rb, hA1, hgb, hbb, hrb⟩ := HFA.out.open_ hbm
  obtain ⟨gf, rf, hB1, hgf, hbf, hrf⟩ := HFB.out.open_ hi
  subst hA1 hB1
  have HBB := zq hbb
  have HBF := zq hbf
  have HRB := zq hrb
  have HRF := zq hrf
  have hlb := HFA.out.le
  have hlf := HFB.out.le
  have hcb := HFA.out.cap
  have hcf := HFB.out.cap
  have hgbl : gb < w1.heap.size := (WHFA.out gb (rowOf_some (by omega))).2
  have hgfl : gf < w1.heap.size := (WHFB.out gf (rowOf_some (by omega))).2
  have hne := Bk.ne hbb hbf (by decide)
  have hne' : ¬ gf = gb := fun e => hne e.symm
  clear hbb hbf hrb hrf
  clear HFA WHFA
  clear HFB WHFB
  have v0 := HBB.out.int HBX.out
  obtain ⟨d0, d1', d2', d3, d4⟩ := HBF.out.frame HIX.out
  have zb := HBB.out.frozen
  have zf := HBF.out.frozen
  have lb := Blk.lt HBB.out
  have lf := Blk.lt HBF.out
  have n1 : ¬ w1.heap.size = gf := by omega
  have n2 : ¬ gf = w1.heap.size := by omega
  have n3 : ¬ w1.heap.size = gb := by omega
  have n4 : ¬ gb = w1.heap.size := by omega
  have n5 : ¬ w.heap.size + 1 = gf := by omega
  have n6 : ¬ gf = w.heap.size + 1 := by omega
  have n7 : ¬ w.heap.size + 1 = gb := by omega
  have n8 : ¬ gb = w.heap.size + 1 := by omega
  have n9 : ¬ w.heap.size + 1 = w1.heap.size := by omega
  have n10 : ¬ w1.heap.size = w.heap.size + 1 := by omega
  have n11 : ¬ w.heap.size = gf := by omega
  have n12 : ¬ gf = w.heap.size := by omega
  have n13 : ¬ b2 = gf := by omega
  have n14 : ¬ gf = b2 := by omega
  have n15 : ¬ b1 = gf := by omega
  have n16 : ¬ gf = b1 := by omega
  by_cases hxi : x = (i : Int)
  · have hxi' : (x == (i : Int)) = true := by simpa using hxi
    have HU := zq (HQ1.out hxi)
    clear hxi
    go_wp2
    refine bodyPost_ret (v := .agg #[.slice (some ⟨gb, 0, none⟩) xs.length c1, .slice (some ⟨gf, 0, none⟩) ys.length d1]) (by first | (simp [results, Tryz.results115, go_sem, *]; done) | (simp [results, Tryz.results115, go_sem, qR0, qR1]; done)) rfl
      (HFIN.out _ _ _ _ _ _ HU.out (by simp) (by simp) ?_ ?_ (ze Ew3.out))
    · refine Fr.close (xs := xs.set b f'.next) (rest := rb) ?_ (by omega) (by simpa using HRB.out) (by simpa using hlb) hcb
      repeat' (first | with_reducible refine Bk.drew ?_ | with_reducible refine Bk.far ?_ hne _ | with_reducible refine Bk.far ?_ hne' _ | with_reducible refine Bk.far ?_ n8 _ | with_reducible refine Bk.far ?_ n6 _)
      with_reducible refine Bk.set_int ?_ _ hbm
      repeat' (first | with_reducible refine Bk.drew ?_ | with_reducible refine Bk.far ?_ hne _ | with_reducible refine Bk.far ?_ hne' _ | with_reducible refine Bk.far ?_ n8 _ | with_reducible refine Bk.far ?_ n6 _)
      exact HBB.out
    · refine Fr.close (xs := ys.set i (⟨false, ⟨0, 0⟩, 0, -1⟩ : FrameD)) (rest := rf) ?_ (by omega) (by simpa using HRF.out) (by simpa using hlf) hcf
      repeat' (first | with_reducible refine Bk.drew ?_ | with_reducible refine Bk.far ?_ hne _ | with_reducible refine Bk.far ?_ hne' _ | with_reducible refine Bk.far ?_ n8 _ | with_reducible refine Bk.far ?_ n6 _)
      with_reducible refine Bk.set_frame ?_ (⟨false, ⟨0, 0⟩, 0, -1⟩ : FrameD) hi
      exact HBF.out
  · have hxi' : (x == (i : Int)) = false := by simpa using hxi
    have HU := zq (HQ2.out hxi)
    clear hxi
    have KXS := KX
    have KOS := KO
    have KRS := KR
    go_wp2
    clear HQ1 HQ2 v0 d0 d1' d2' d3 d4 zb lb
    have h16 := HXL.out.1
    go_loopw [8] (fun z wr => ∃ k : Nat, k ≤ ys.length ∧ z = .int .i64 k ∧ Chg gf (gf + 1) w3 wr ∧ Bk 45 wr gf (skipTo ys i f'.next k) rf) (fun z _ => ys.length - (intOf z).toNat)
    case atStart =>
      refine ⟨0, Nat.zero_le _, rfl, (by with_reducible repeat' (first | exact Chg.refl _ _ w3 | refine Chg.alloc ?_ _ | refine Chg.drew ?_ | refine Chg.set ?_ (by omega) _)), ?_⟩
      rw [skipTo_zero]
      show Bk _ _ gf (ys.set i (⟨false, ⟨0, 0⟩, 0, -1⟩ : FrameD)) rf
      with_reducible refine Bk.set_frame ?_ (⟨false, ⟨0, 0⟩, 0, -1⟩ : FrameD) hi
      exact HBF.out
    case round =>
      obtain ⟨k, hk, rfl, hch, hbk⟩ := hrel
      have HCH := zq hch
      have HBK := zq hbk
      have EW : Hid (Ex w wr) := zq (Ew3.out.chg hch (by omega))
      have KX := zq (KXS.out.chg hch (by omega))
      have KO := zq (KOS.out.chg hch (by omega))
      have KR := zq (KRS.out.chg hch (by omega))
      clear qX0 qX1 jX qO0 qO1 jO qR0 qR1 jR zR zf lf p1 p2 p3 p4 hch hbk
      obtain ⟨qX0, qX1⟩ := KX.out.c2
      have jX := KX.out.lt
      obtain ⟨qO0, qO1⟩ := KO.out.c2
      have jO := KO.out.lt
      obtain ⟨qR0, qR1⟩ := KR.out.c2
      have jR := KR.out.lt
      have zR := KR.out.frozen
      by_cases hlt : k < ys.length
      · obtain ⟨b3, o3, y, eA, hb3, hyk, k0, k1, k2, k3, k4⟩ := (HY.out.ex EW.out).frame (k := k) hlt
        injection eA with eA
        injection eA with e1 e2
        subst e1 e2
        have HYK := zq hyk
        obtain ⟨u4, d4⟩ : ∃ u : Int, wr.cell? ⟨gf, k * 5 + 4, none⟩ = some (.int .i64 u) := ⟨_, (HBK.out.frame (skipTo_get (i := i) (nx := f'.next) (n := k) hyk)).2.2.2.2⟩
        have zf := HBK.out.frozen
        have lf := Blk.lt HBK.out
        have HLT : Hid (k < (skipTo ys i f'.next k).length) := zq (by rw [skipTo_length]; exact hlt)
        clear hyk k1 k2 k3
        cases hu : y.used
        · rw [hu] at k0
          have HS := zq (skipTo_keep (i := i) (nx := f'.next) HYK.out (.inr (fun h => by rw [hu] at h; cases h.1)))
          clear hu
          go_wp2
          go_roundw
          case rel => exact ⟨k + 1, by omega, by go_num, HCH.out, by rw [HS.out]; exact HBK.out⟩
          case measure => simp [intOf]; omega
        · rw [hu] at k0
          by_cases hn : y.next = (i : Int)
          · have hki : k ≠ i := fun e => by
              subst e
              have h1 := HIX.out
              rw [HYK.out] at h1
              injection h1 with h1
              rw [h1] at hn
              exact HSELF.out hn
            have HS := zq (skipTo_put (nx := f'.next) HYK.out hki hu hn)
            have HG : Hid ((skipTo ys i f'.next k)[k]? = some y) := zq (by rw [skipTo_get HYK.out, if_neg hki, if_neg (by omega)])
            have hn' : (y.next == (i : Int)) = true := by simpa using hn
            clear hu hn
            have hk0 : ¬ (k : Int) < 0 := by omega
            have hkn : (k : Int) < (ys.length : Int) := by omega
            go_wp2
            go_roundw
            case rel => exact ⟨k + 1, by omega, by go_num, HCH.out.set (by omega) _, by rw [HS.out]; exact HBK.out.set (j := 4) (x := y) (y := { y with next := f'.next }) HG.out (by decide) rfl (by simp [sz])⟩
            case measure => simp [intOf]; omega
          · have HS := zq (skipTo_keep (i := i) (nx := f'.next) HYK.out (.inr (fun h => hn h.2)))
            have hn' : (y.next == (i : Int)) = false := by simpa using hn
            clear hu hn
            go_wp2
            go_roundw
            case rel => exact ⟨k + 1, by omega, by go_num, HCH.out, by rw [HS.out]; exact HBK.out⟩
            case measure => simp [intOf]; omega
      · obtain rfl : k = ys.length := by omega
        have HB2 : Hid (Bk 3 wr gb xs rb) := zq (HBB.out.chg HCH.out (by omega))
        go_wp2
        refine bodyPost_ret (v := .agg #[.slice (some ⟨gb, 0, none⟩) xs.length c1, .slice (some ⟨gf, 0, none⟩) ys.length d1]) (by first | (simp [results, Tryz.results115, go_sem, *]; done) | (simp [results, Tryz.results115, go_sem, qR0, qR1]; done)) rfl
          (HFIN.out _ _ _ _ _ _ HU.out rfl (skipTo_length _ _ _ _) ?_ ?_ (ze EW.out))
        · refine Fr.close (xs := xs) (rest := rb) ?_ (by omega) HRB.out hlb hcb
          repeat' (first | with_reducible exact HB2.out | with_reducible refine Bk.drew ?_ | with_reducible refine Bk.far ?_ n8 _)
        · refine Fr.close (xs := skipTo ys i f'.next ys.length) (rest := rf) ?_ (by omega) (by rw [skipTo_length]; exact HRF.out) (by rw [skipTo_length]; exact hlf) hcf
          repeat' (first | with_reducible exact HBK.out | with_reducible refine Bk.drew ?_ | with_reducible refine Bk.far ?_ n6 _)
end Go.Proofs.YtbdlpbladpppjaaGreatDoor
