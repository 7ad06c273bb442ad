/- When is a memory valid, and its first free frame: both sides. -/
import Derived.Test.YtihlaecbdlgbiaaDoorWs
import Derived.Test.YtihlaecbdlgbiaaDoorWm
import Derived.Test.YtihlaecbdlgbiaaDoorBm
namespace Go.Proofs.YtihlaecbdlgbiaaDoor
open Go.ChangeShapes Go.WideShapes Go.ChangeAt Go.RowKit
open Rec (sz cs)
set_option linter.unusedVariables false
set_option maxRecDepth 100000

set_option maxHeartbeats 8000000 in
theorem memS_c (x : MemD) (a : MA) (K : Option Addr) (kc : Nat) (w : World) (hx : HasE w x a K) (hf : FewE x) (hc : CapE x a kc) :
    Calls Tryd.prog 12 #[.agg #[.slice a.b x.mach.table.buckets.length a.bc, .slice a.f x.mach.table.frames.length a.fc, .slice a.l x.mach.cache.lines.length a.lc, .int .i64 x.mach.cache.hand, .int .i64 x.mach.tags.count, .int .i64 x.mach.tags.next, .int .i64 x.mach.tags.round, .slice a.o x.mach.tags.owns.length a.oc, .int .i64 x.mach.space, .slice K x.marks.length kc, .int .i64 x.hand]] w fun r w' => r = .returned (.bool (memV x)) ∧ Ex w w' := by
  obtain ⟨A, c, B, d, L, e, O, g⟩ := a
  have HM : Hid (HasM w x.mach ⟨A, c, B, d, L, e, O, g⟩) := Lib.hid hx.m
  have HF : Hid (Rd w B x.mach.table.frames) := Lib.hid hx.m.f
  have HK : Hid (Rd w K x.marks) := Lib.hid hx.k
  skip
  have C1 := Lib.hid (fun w' (h : HasM w' x.mach ⟨A, c, B, d, L, e, O, g⟩) => machS_c x.mach ⟨A, c, B, d, L, e, O, g⟩ w' h hf.m hc.m)
  dsimp only at C1 ⊢
  have hfn := hf.m.f
  have hfk := hf.k
  clear hx hf hc
  have HNO : Hid (∀ w', Ex w w' → ¬ MemOk x → (Ending.returned (.bool false) = .returned (.bool (memV x)) ∧ Ex w w')) := Lib.hid (fun w' h1 h2 => ⟨ret_bool (memV_no h2).symm, h1⟩)
  cases h1 : machV x.mach
  · rw [h1] at C1
    have HBAD : Hid (¬ MemOk x) := Lib.hid (fun h => by have := machV_yes h.1; rw [h1] at this; cases this)
    clear h1
    generalize x.mach.table.frames.length = n at C1 ⊢
    generalize x.mach.table.buckets.length = nb at C1 ⊢
    generalize x.mach.cache.lines.length = nl at C1 ⊢
    generalize x.mach.tags.owns.length = no at C1 ⊢
    generalize x.marks.length = nm
    go_enter Tryd.func12, Tryd.ntmps12
    go_wp2_with fail
    have K0 : Hid (Blk (w.alloc (.cells #[.slice A nb c, .slice B n d, .slice L nl e, .int .i64 x.mach.cache.hand, .int .i64 x.mach.tags.count, .int .i64 x.mach.tags.next, .int .i64 x.mach.tags.round, .slice O no g, .int .i64 x.mach.space, .slice K nm kc, .int .i64 x.hand] 56)) w.heap.size 56 [.slice A nb c, .slice B n d, .slice L nl e, .int .i64 x.mach.cache.hand, .int .i64 x.mach.tags.count, .int .i64 x.mach.tags.next, .int .i64 x.mach.tags.round, .slice O no g, .int .i64 x.mach.space, .slice K nm kc, .int .i64 x.hand]) := Lib.hid (Blk.new w _ _)
    have E0 : Hid (Ex w (w.alloc (.cells #[.slice A nb c, .slice B n d, .slice L nl e, .int .i64 x.mach.cache.hand, .int .i64 x.mach.tags.count, .int .i64 x.mach.tags.next, .int .i64 x.mach.tags.round, .slice O no g, .int .i64 x.mach.space, .slice K nm kc, .int .i64 x.hand] 56))) := Lib.hid ((Ex.refl w).alloc _)
    refine (C1.out _ (HM.out.ex E0.out)).mono ?_
    rintro r w1 ⟨rfl, he1⟩
    have E1 := Lib.hid (E0.out.trans he1)
    have K1 := Lib.hid (K0.out.ex he1)
    clear he1 E0 K0
    obtain ⟨q0, q1, q2, q3, q4, q5, q6, q7, q8, q9, q10⟩ := K1.out.c11
    have jM := K1.out.lt
    go_wp2
    go_ret
    exact HNO.out _ E1.out HBAD.out
  rw [h1] at C1
  have HMV : Hid (MachOk x.mach) := Lib.hid (machV_iff.1 h1)
  clear h1
  by_cases hl : x.marks.length = x.mach.table.frames.length
  rotate_left
  · have HBAD : Hid (¬ MemOk x) := Lib.hid (fun h => hl h.2.1)
    generalize x.mach.table.frames.length = n at C1 hl hfn ⊢
    generalize x.mach.table.buckets.length = nb at C1 ⊢
    generalize x.mach.cache.lines.length = nl at C1 ⊢
    generalize x.mach.tags.owns.length = no at C1 ⊢
    generalize x.marks.length = nm at hl hfk ⊢
    have hbb : ((nm : Int) == (n : Int)) = false := by simp; omega
    have hbn : ((nm : Int) != (n : Int)) = true := by simp; omega
    have hbm : (!((nm : Int) == (n : Int))) = true := by simp; omega
    have hbk : ¬ ((nm : Int) = (n : Int)) := by omega
    go_enter Tryd.func12, Tryd.ntmps12
    go_wp2_with fail
    have K0 : Hid (Blk (w.alloc (.cells #[.slice A nb c, .slice B n d, .slice L nl e, .int .i64 x.mach.cache.hand, .int .i64 x.mach.tags.count, .int .i64 x.mach.tags.next, .int .i64 x.mach.tags.round, .slice O no g, .int .i64 x.mach.space, .slice K nm kc, .int .i64 x.hand] 56)) w.heap.size 56 [.slice A nb c, .slice B n d, .slice L nl e, .int .i64 x.mach.cache.hand, .int .i64 x.mach.tags.count, .int .i64 x.mach.tags.next, .int .i64 x.mach.tags.round, .slice O no g, .int .i64 x.mach.space, .slice K nm kc, .int .i64 x.hand]) := Lib.hid (Blk.new w _ _)
    have E0 : Hid (Ex w (w.alloc (.cells #[.slice A nb c, .slice B n d, .slice L nl e, .int .i64 x.mach.cache.hand, .int .i64 x.mach.tags.count, .int .i64 x.mach.tags.next, .int .i64 x.mach.tags.round, .slice O no g, .int .i64 x.mach.space, .slice K nm kc, .int .i64 x.hand] 56))) := Lib.hid ((Ex.refl w).alloc _)
    refine (C1.out _ (HM.out.ex E0.out)).mono ?_
    rintro r w1 ⟨rfl, he1⟩
    have E1 := Lib.hid (E0.out.trans he1)
    have K1 := Lib.hid (K0.out.ex he1)
    clear he1 E0 K0
    obtain ⟨q0, q1, q2, q3, q4, q5, q6, q7, q8, q9, q10⟩ := K1.out.c11
    have jM := K1.out.lt
    go_wp2
    go_ret
    exact HNO.out _ E1.out HBAD.out
  by_cases hh : 0 ≤ x.hand ∧ x.hand < x.marks.length
  rotate_left
  · have HBAD : Hid (¬ MemOk x) := Lib.hid (fun h => hh h.2.2.1)
    rw [hl] at hh ⊢
    generalize x.mach.table.frames.length = n at C1 hh ⊢
    generalize x.mach.table.buckets.length = nb at C1 ⊢
    generalize x.mach.cache.lines.length = nl at C1 ⊢
    generalize x.mach.tags.owns.length = no at C1 ⊢
    by_cases h0 : x.hand < 0
    · have h0' : ¬ 0 ≤ x.hand := by omega
      go_enter Tryd.func12, Tryd.ntmps12
      go_wp2_with fail
      have K0 : Hid (Blk (w.alloc (.cells #[.slice A nb c, .slice B n d, .slice L nl e, .int .i64 x.mach.cache.hand, .int .i64 x.mach.tags.count, .int .i64 x.mach.tags.next, .int .i64 x.mach.tags.round, .slice O no g, .int .i64 x.mach.space, .slice K n kc, .int .i64 x.hand] 56)) w.heap.size 56 [.slice A nb c, .slice B n d, .slice L nl e, .int .i64 x.mach.cache.hand, .int .i64 x.mach.tags.count, .int .i64 x.mach.tags.next, .int .i64 x.mach.tags.round, .slice O no g, .int .i64 x.mach.space, .slice K n kc, .int .i64 x.hand]) := Lib.hid (Blk.new w _ _)
      have E0 : Hid (Ex w (w.alloc (.cells #[.slice A nb c, .slice B n d, .slice L nl e, .int .i64 x.mach.cache.hand, .int .i64 x.mach.tags.count, .int .i64 x.mach.tags.next, .int .i64 x.mach.tags.round, .slice O no g, .int .i64 x.mach.space, .slice K n kc, .int .i64 x.hand] 56))) := Lib.hid ((Ex.refl w).alloc _)
      refine (C1.out _ (HM.out.ex E0.out)).mono ?_
      rintro r w1 ⟨rfl, he1⟩
      have E1 := Lib.hid (E0.out.trans he1)
      have K1 := Lib.hid (K0.out.ex he1)
      clear he1 E0 K0
      obtain ⟨q0, q1, q2, q3, q4, q5, q6, q7, q8, q9, q10⟩ := K1.out.c11
      have jM := K1.out.lt
      go_wp2
      go_ret
      exact HNO.out _ E1.out HBAD.out
    · have h2 : (n : Int) ≤ x.hand := by omega
      have h0' : 0 ≤ x.hand := by omega
      go_enter Tryd.func12, Tryd.ntmps12
      go_wp2_with fail
      have K0 : Hid (Blk (w.alloc (.cells #[.slice A nb c, .slice B n d, .slice L nl e, .int .i64 x.mach.cache.hand, .int .i64 x.mach.tags.count, .int .i64 x.mach.tags.next, .int .i64 x.mach.tags.round, .slice O no g, .int .i64 x.mach.space, .slice K n kc, .int .i64 x.hand] 56)) w.heap.size 56 [.slice A nb c, .slice B n d, .slice L nl e, .int .i64 x.mach.cache.hand, .int .i64 x.mach.tags.count, .int .i64 x.mach.tags.next, .int .i64 x.mach.tags.round, .slice O no g, .int .i64 x.mach.space, .slice K n kc, .int .i64 x.hand]) := Lib.hid (Blk.new w _ _)
      have E0 : Hid (Ex w (w.alloc (.cells #[.slice A nb c, .slice B n d, .slice L nl e, .int .i64 x.mach.cache.hand, .int .i64 x.mach.tags.count, .int .i64 x.mach.tags.next, .int .i64 x.mach.tags.round, .slice O no g, .int .i64 x.mach.space, .slice K n kc, .int .i64 x.hand] 56))) := Lib.hid ((Ex.refl w).alloc _)
      refine (C1.out _ (HM.out.ex E0.out)).mono ?_
      rintro r w1 ⟨rfl, he1⟩
      have E1 := Lib.hid (E0.out.trans he1)
      have K1 := Lib.hid (K0.out.ex he1)
      clear he1 E0 K0
      obtain ⟨q0, q1, q2, q3, q4, q5, q6, q7, q8, q9, q10⟩ := K1.out.c11
      have jM := K1.out.lt
      go_wp2
      go_ret
      exact HNO.out _ E1.out HBAD.out
  have h0 : ¬ x.hand < 0 := by omega
  have HHH := Lib.hid hh
  have HLL := Lib.hid hl
  obtain ⟨n, en⟩ : ∃ n, n = x.mach.table.frames.length := ⟨_, rfl⟩
  have HN := Lib.hid en
  rw [hl] at hh hfk ⊢
  rw [← en] at C1 hh hl hfn hfk ⊢
  have hh2 : ¬ (n : Int) ≤ x.hand := by omega
  generalize x.mach.table.buckets.length = nb at C1 ⊢
  generalize x.mach.cache.lines.length = nl at C1 ⊢
  generalize x.mach.tags.owns.length = no at C1 ⊢
  clear en
  go_enter Tryd.func12, Tryd.ntmps12
  go_wp2_with fail
  have K0 : Hid (Blk (w.alloc (.cells #[.slice A nb c, .slice B n d, .slice L nl e, .int .i64 x.mach.cache.hand, .int .i64 x.mach.tags.count, .int .i64 x.mach.tags.next, .int .i64 x.mach.tags.round, .slice O no g, .int .i64 x.mach.space, .slice K n kc, .int .i64 x.hand] 56)) w.heap.size 56 [.slice A nb c, .slice B n d, .slice L nl e, .int .i64 x.mach.cache.hand, .int .i64 x.mach.tags.count, .int .i64 x.mach.tags.next, .int .i64 x.mach.tags.round, .slice O no g, .int .i64 x.mach.space, .slice K n kc, .int .i64 x.hand]) := Lib.hid (Blk.new w _ _)
  have E0 : Hid (Ex w (w.alloc (.cells #[.slice A nb c, .slice B n d, .slice L nl e, .int .i64 x.mach.cache.hand, .int .i64 x.mach.tags.count, .int .i64 x.mach.tags.next, .int .i64 x.mach.tags.round, .slice O no g, .int .i64 x.mach.space, .slice K n kc, .int .i64 x.hand] 56))) := Lib.hid ((Ex.refl w).alloc _)
  refine (C1.out _ (HM.out.ex E0.out)).mono ?_
  rintro r w1 ⟨rfl, he1⟩
  have E1 := Lib.hid (E0.out.trans he1)
  have K1 := Lib.hid (K0.out.ex he1)
  clear he1 E0 K0
  obtain ⟨q0, q1, q2, q3, q4, q5, q6, q7, q8, q9, q10⟩ := K1.out.c11
  have jM := K1.out.lt
  go_wp2
  clear q0 q1 q2 q3 q4 q5 q6 q7 q8 q9 q10 jM C1
  go_loopw [3] (fun i wr => ∃ k : Nat, k ≤ n ∧ i = .int .i64 k ∧ Ex w1 wr ∧ ∀ (j : Nat) (f : FrameD), j < k → x.marks[j]? = some true → x.mach.table.frames[j]? = some f → f.used = true) (fun i _ => n - (intOf i).toNat)
  case atStart => exact ⟨0, Nat.zero_le _, rfl, Ex.refl _, fun j f hj => by omega⟩
  case round =>
    obtain ⟨k, hk, rfl, hq, hall⟩ := hrel
    have HQ := Lib.hid (E1.out.trans hq)
    have HQ1 := Lib.hid hq
    have HALL := Lib.hid hall
    have KQ := Lib.hid (K1.out.ex hq)
    clear hq hall
    obtain ⟨q0, q1, q2, q3, q4, q5, q6, q7, q8, q9, q10⟩ := KQ.out.c11
    have jM := KQ.out.lt
    by_cases hlt : k < n
    · obtain ⟨b5, o5, v, rfl, hb5, hvk, hcv⟩ := (HK.out.ex HQ.out).bool (k := k) (by have := HN.out; have := HLL.out; omega)
      obtain ⟨b2, o2, f, rfl, hb2, hfi, k0, k1, k2, k3, k4⟩ := (HF.out.ex HQ.out).frame (k := k) (by have := HN.out; omega)
      have HVK := Lib.hid hvk
      have HFI := Lib.hid hfi
      have HNEXT : Hid ((v = true → f.used = true) → ∀ (j : Nat) (f : FrameD), j < k + 1 → x.marks[j]? = some true → x.mach.table.frames[j]? = some f → f.used = true) := Lib.hid (fun hh j h hj h1 h2 => by
        by_cases e : j = k
        · subst e
          rw [HVK.out] at h1
          rw [HFI.out] at h2
          injection h1 with h1
          injection h2 with h2
          rw [← h2]; exact hh h1
        · exact HALL.out j h (by omega) h1 h2)
      clear hvk hfi
      cases v
      · have HFF := Lib.hid (HNEXT.out (fun h => by cases h))
        go_wp2
        go_roundw
        case rel => exact ⟨k + 1, by omega, by go_num, HQ1.out, HFF.out⟩
        case measure => simp [intOf]; omega
      cases hu : f.used
      · rw [hu] at k0
        have HBAD : Hid (¬ MemOk x) := Lib.hid (fun h => by have := h.2.2.2 k f HVK.out HFI.out; rw [hu] at this; cases this)
        clear hu
        go_wp2
        go_ret
        exact HNO.out _ HQ.out HBAD.out
      · rw [hu] at k0
        have HFF := Lib.hid (HNEXT.out (fun _ => hu))
        clear hu
        go_wp2
        go_roundw
        case rel => exact ⟨k + 1, by omega, by go_num, HQ1.out, HFF.out⟩
        case measure => simp [intOf]; omega
    · obtain rfl : k = n := by omega
      go_wp2
      go_ret
      exact ⟨ret_bool (memV_iff.2 ⟨HMV.out, HLL.out, HHH.out, fun i f h1 h2 => HALL.out i f (by have := getElem?_lt h2; have := HN.out; omega) h1 h2⟩).symm, HQ.out⟩

set_option maxHeartbeats 8000000 in
theorem memI_c (x : MemD) (a : MA) (K : Option Addr) (kc : Nat) (w : World) (hx : HasE w x a K) (hf : FewE x) (hc : CapE x a kc) (hv : FreeV w) :
    Calls Tryd.prog 14 #[.agg #[.slice a.b x.mach.table.buckets.length a.bc, .slice a.f x.mach.table.frames.length a.fc, .slice a.l x.mach.cache.lines.length a.lc, .int .i64 x.mach.cache.hand, .int .i64 x.mach.tags.count, .int .i64 x.mach.tags.next, .int .i64 x.mach.tags.round, .slice a.o x.mach.tags.owns.length a.oc, .int .i64 x.mach.space, .slice K x.marks.length kc, .int .i64 x.hand]] w fun r w' => r = .returned (.bool (memV x)) ∧ Ex w w' := by
  obtain ⟨A, c, B, d, L, e, O, g⟩ := a
  have HM : Hid (HasM w x.mach ⟨A, c, B, d, L, e, O, g⟩) := Lib.hid hx.m
  have HF : Hid (Rd w B x.mach.table.frames) := Lib.hid hx.m.f
  have HK : Hid (Rd w K x.marks) := Lib.hid hx.k
  have HV := Lib.hid hv
  have C1 := Lib.hid (fun w' (h : HasM w' x.mach ⟨A, c, B, d, L, e, O, g⟩) (h3 : FreeV w') => machI_c x.mach ⟨A, c, B, d, L, e, O, g⟩ w' h hf.m hc.m h3)
  dsimp only at C1 ⊢
  have hfn := hf.m.f
  have hfk := hf.k
  clear hx hf hc hv
  have HNO : Hid (∀ w', Ex w w' → ¬ MemOk x → (Ending.returned (.bool false) = .returned (.bool (memV x)) ∧ Ex w w')) := Lib.hid (fun w' h1 h2 => ⟨ret_bool (memV_no h2).symm, h1⟩)
  cases h1 : machV x.mach
  · rw [h1] at C1
    have HBAD : Hid (¬ MemOk x) := Lib.hid (fun h => by have := machV_yes h.1; rw [h1] at this; cases this)
    clear h1
    generalize x.mach.table.frames.length = n at C1 ⊢
    generalize x.mach.table.buckets.length = nb at C1 ⊢
    generalize x.mach.cache.lines.length = nl at C1 ⊢
    generalize x.mach.tags.owns.length = no at C1 ⊢
    generalize x.marks.length = nm
    go_enter Tryd.func14, Tryd.ntmps14
    go_wp2_with fail
    have K0 : Hid (Blk (w.alloc (.cells #[.slice A nb c, .slice B n d, .slice L nl e, .int .i64 x.mach.cache.hand, .int .i64 x.mach.tags.count, .int .i64 x.mach.tags.next, .int .i64 x.mach.tags.round, .slice O no g, .int .i64 x.mach.space, .slice K nm kc, .int .i64 x.hand] 56)) w.heap.size 56 [.slice A nb c, .slice B n d, .slice L nl e, .int .i64 x.mach.cache.hand, .int .i64 x.mach.tags.count, .int .i64 x.mach.tags.next, .int .i64 x.mach.tags.round, .slice O no g, .int .i64 x.mach.space, .slice K nm kc, .int .i64 x.hand]) := Lib.hid (Blk.new w _ _)
    have E0 : Hid (Ex w (w.alloc (.cells #[.slice A nb c, .slice B n d, .slice L nl e, .int .i64 x.mach.cache.hand, .int .i64 x.mach.tags.count, .int .i64 x.mach.tags.next, .int .i64 x.mach.tags.round, .slice O no g, .int .i64 x.mach.space, .slice K nm kc, .int .i64 x.hand] 56))) := Lib.hid ((Ex.refl w).alloc _)
    refine (C1.out _ (HM.out.ex E0.out) (HV.out.ex E0.out)).mono ?_
    rintro r w1 ⟨rfl, he1⟩
    have E1 := Lib.hid (E0.out.trans he1)
    have K1 := Lib.hid (K0.out.ex he1)
    clear he1 E0 K0
    obtain ⟨q0, q1, q2, q3, q4, q5, q6, q7, q8, q9, q10⟩ := K1.out.c11
    have jM := K1.out.lt
    go_wp2
    go_ret
    exact HNO.out _ E1.out HBAD.out
  rw [h1] at C1
  have HMV : Hid (MachOk x.mach) := Lib.hid (machV_iff.1 h1)
  clear h1
  by_cases hl : x.marks.length = x.mach.table.frames.length
  rotate_left
  · have HBAD : Hid (¬ MemOk x) := Lib.hid (fun h => hl h.2.1)
    generalize x.mach.table.frames.length = n at C1 hl hfn ⊢
    generalize x.mach.table.buckets.length = nb at C1 ⊢
    generalize x.mach.cache.lines.length = nl at C1 ⊢
    generalize x.mach.tags.owns.length = no at C1 ⊢
    generalize x.marks.length = nm at hl hfk ⊢
    have hbb : ((nm : Int) == (n : Int)) = false := by simp; omega
    have hbn : ((nm : Int) != (n : Int)) = true := by simp; omega
    have hbm : (!((nm : Int) == (n : Int))) = true := by simp; omega
    have hbk : ¬ ((nm : Int) = (n : Int)) := by omega
    go_enter Tryd.func14, Tryd.ntmps14
    go_wp2_with fail
    have K0 : Hid (Blk (w.alloc (.cells #[.slice A nb c, .slice B n d, .slice L nl e, .int .i64 x.mach.cache.hand, .int .i64 x.mach.tags.count, .int .i64 x.mach.tags.next, .int .i64 x.mach.tags.round, .slice O no g, .int .i64 x.mach.space, .slice K nm kc, .int .i64 x.hand] 56)) w.heap.size 56 [.slice A nb c, .slice B n d, .slice L nl e, .int .i64 x.mach.cache.hand, .int .i64 x.mach.tags.count, .int .i64 x.mach.tags.next, .int .i64 x.mach.tags.round, .slice O no g, .int .i64 x.mach.space, .slice K nm kc, .int .i64 x.hand]) := Lib.hid (Blk.new w _ _)
    have E0 : Hid (Ex w (w.alloc (.cells #[.slice A nb c, .slice B n d, .slice L nl e, .int .i64 x.mach.cache.hand, .int .i64 x.mach.tags.count, .int .i64 x.mach.tags.next, .int .i64 x.mach.tags.round, .slice O no g, .int .i64 x.mach.space, .slice K nm kc, .int .i64 x.hand] 56))) := Lib.hid ((Ex.refl w).alloc _)
    refine (C1.out _ (HM.out.ex E0.out) (HV.out.ex E0.out)).mono ?_
    rintro r w1 ⟨rfl, he1⟩
    have E1 := Lib.hid (E0.out.trans he1)
    have K1 := Lib.hid (K0.out.ex he1)
    clear he1 E0 K0
    obtain ⟨q0, q1, q2, q3, q4, q5, q6, q7, q8, q9, q10⟩ := K1.out.c11
    have jM := K1.out.lt
    go_wp2
    go_ret
    exact HNO.out _ E1.out HBAD.out
  have CW := Lib.hid (fun w => within_c x.hand (x.mach.table.frames.length : Int) w)
  by_cases hh : 0 ≤ x.hand ∧ x.hand < x.marks.length
  rotate_left
  · have HBAD : Hid (¬ MemOk x) := Lib.hid (fun h => hh h.2.2.1)
    rw [hl] at hh ⊢
    rw [show inB x.hand (x.mach.table.frames.length : Int) = false from by cases h : inB x.hand (x.mach.table.frames.length : Int); rfl; exact absurd (inB_true.1 h) hh] at CW
    generalize x.mach.table.frames.length = n at C1 CW ⊢
    generalize x.mach.table.buckets.length = nb at C1 ⊢
    generalize x.mach.cache.lines.length = nl at C1 ⊢
    generalize x.mach.tags.owns.length = no at C1 ⊢
    clear hh hl
    go_enter Tryd.func14, Tryd.ntmps14
    go_wp2_with fail
    have K0 : Hid (Blk (w.alloc (.cells #[.slice A nb c, .slice B n d, .slice L nl e, .int .i64 x.mach.cache.hand, .int .i64 x.mach.tags.count, .int .i64 x.mach.tags.next, .int .i64 x.mach.tags.round, .slice O no g, .int .i64 x.mach.space, .slice K n kc, .int .i64 x.hand] 56)) w.heap.size 56 [.slice A nb c, .slice B n d, .slice L nl e, .int .i64 x.mach.cache.hand, .int .i64 x.mach.tags.count, .int .i64 x.mach.tags.next, .int .i64 x.mach.tags.round, .slice O no g, .int .i64 x.mach.space, .slice K n kc, .int .i64 x.hand]) := Lib.hid (Blk.new w _ _)
    have E0 : Hid (Ex w (w.alloc (.cells #[.slice A nb c, .slice B n d, .slice L nl e, .int .i64 x.mach.cache.hand, .int .i64 x.mach.tags.count, .int .i64 x.mach.tags.next, .int .i64 x.mach.tags.round, .slice O no g, .int .i64 x.mach.space, .slice K n kc, .int .i64 x.hand] 56))) := Lib.hid ((Ex.refl w).alloc _)
    refine (C1.out _ (HM.out.ex E0.out) (HV.out.ex E0.out)).mono ?_
    rintro r w1 ⟨rfl, he1⟩
    have E1 := Lib.hid (E0.out.trans he1)
    have K1 := Lib.hid (K0.out.ex he1)
    clear he1 E0 K0
    obtain ⟨q0, q1, q2, q3, q4, q5, q6, q7, q8, q9, q10⟩ := K1.out.c11
    have jM := K1.out.lt
    go_wp2_with fail
    refine (CW.out _).mono ?_
    rintro r w2 ⟨rfl, rfl⟩
    go_wp2
    go_ret
    exact HNO.out _ E1.out HBAD.out
  rw [inB_true.2 (by rw [hl] at hh; exact hh)] at CW
  have HHH := Lib.hid hh
  have HLL := Lib.hid hl
  obtain ⟨n, en⟩ : ∃ n, n = x.mach.table.frames.length := ⟨_, rfl⟩
  have HN := Lib.hid en
  rw [hl] at hh hfk ⊢
  rw [← en] at C1 hh hl hfn hfk CW ⊢
  have hh2 : ¬ (n : Int) ≤ x.hand := by omega
  generalize x.mach.table.buckets.length = nb at C1 ⊢
  generalize x.mach.cache.lines.length = nl at C1 ⊢
  generalize x.mach.tags.owns.length = no at C1 ⊢
  clear en
  go_enter Tryd.func14, Tryd.ntmps14
  go_wp2_with fail
  have K0 : Hid (Blk (w.alloc (.cells #[.slice A nb c, .slice B n d, .slice L nl e, .int .i64 x.mach.cache.hand, .int .i64 x.mach.tags.count, .int .i64 x.mach.tags.next, .int .i64 x.mach.tags.round, .slice O no g, .int .i64 x.mach.space, .slice K n kc, .int .i64 x.hand] 56)) w.heap.size 56 [.slice A nb c, .slice B n d, .slice L nl e, .int .i64 x.mach.cache.hand, .int .i64 x.mach.tags.count, .int .i64 x.mach.tags.next, .int .i64 x.mach.tags.round, .slice O no g, .int .i64 x.mach.space, .slice K n kc, .int .i64 x.hand]) := Lib.hid (Blk.new w _ _)
  have E0 : Hid (Ex w (w.alloc (.cells #[.slice A nb c, .slice B n d, .slice L nl e, .int .i64 x.mach.cache.hand, .int .i64 x.mach.tags.count, .int .i64 x.mach.tags.next, .int .i64 x.mach.tags.round, .slice O no g, .int .i64 x.mach.space, .slice K n kc, .int .i64 x.hand] 56))) := Lib.hid ((Ex.refl w).alloc _)
  refine (C1.out _ (HM.out.ex E0.out) (HV.out.ex E0.out)).mono ?_
  rintro r w1 ⟨rfl, he1⟩
  have E1 := Lib.hid (E0.out.trans he1)
  have K1 := Lib.hid (K0.out.ex he1)
  clear he1 E0 K0
  obtain ⟨q0, q1, q2, q3, q4, q5, q6, q7, q8, q9, q10⟩ := K1.out.c11
  have jM := K1.out.lt
  go_wp2_with fail
  refine (CW.out _).mono ?_
  rintro r w2 ⟨rfl, rfl⟩
  clear CW
  go_wp2
  clear q0 q1 q2 q3 q4 q5 q6 q7 q8 q9 q10 jM C1
  go_loopw [33] (fun i wr => ∃ k : Nat, k ≤ n ∧ i = .int .i64 k ∧ Ex w1 wr ∧ ∀ (j : Nat) (f : FrameD), j < k → x.marks[j]? = some true → x.mach.table.frames[j]? = some f → f.used = true) (fun i _ => n - (intOf i).toNat)
  case atStart => exact ⟨0, Nat.zero_le _, rfl, Ex.refl _, fun j f hj => by omega⟩
  case round =>
    obtain ⟨k, hk, rfl, hq, hall⟩ := hrel
    have HQ := Lib.hid (E1.out.trans hq)
    have HQ1 := Lib.hid hq
    have HALL := Lib.hid hall
    have KQ := Lib.hid (K1.out.ex hq)
    clear hq hall
    obtain ⟨q0, q1, q2, q3, q4, q5, q6, q7, q8, q9, q10⟩ := KQ.out.c11
    have jM := KQ.out.lt
    by_cases hlt : k < n
    · obtain ⟨b5, o5, v, rfl, hb5, hvk, hcv⟩ := (HK.out.ex HQ.out).bool (k := k) (by have := HN.out; have := HLL.out; omega)
      obtain ⟨b2, o2, f, rfl, hb2, hfi, k0, k1, k2, k3, k4⟩ := (HF.out.ex HQ.out).frame (k := k) (by have := HN.out; omega)
      have HVK := Lib.hid hvk
      have HFI := Lib.hid hfi
      have HNEXT : Hid ((v = true → f.used = true) → ∀ (j : Nat) (f : FrameD), j < k + 1 → x.marks[j]? = some true → x.mach.table.frames[j]? = some f → f.used = true) := Lib.hid (fun hh j h hj h1 h2 => by
        by_cases e : j = k
        · subst e
          rw [HVK.out] at h1
          rw [HFI.out] at h2
          injection h1 with h1
          injection h2 with h2
          rw [← h2]; exact hh h1
        · exact HALL.out j h (by omega) h1 h2)
      clear hvk hfi
      cases v
      · have HFF := Lib.hid (HNEXT.out (fun h => by cases h))
        go_wp2
        go_roundw
        case rel => exact ⟨k + 1, by omega, by go_num, HQ1.out, HFF.out⟩
        case measure => simp [intOf]; omega
      cases hu : f.used
      · rw [hu] at k0
        have HBAD : Hid (¬ MemOk x) := Lib.hid (fun h => by have := h.2.2.2 k f HVK.out HFI.out; rw [hu] at this; cases this)
        clear hu
        go_wp2
        go_ret
        exact HNO.out _ HQ.out HBAD.out
      · rw [hu] at k0
        have HFF := Lib.hid (HNEXT.out (fun _ => hu))
        clear hu
        go_wp2
        go_roundw
        case rel => exact ⟨k + 1, by omega, by go_num, HQ1.out, HFF.out⟩
        case measure => simp [intOf]; omega
    · obtain rfl : k = n := by omega
      go_wp2
      go_ret
      exact ⟨ret_bool (memV_iff.2 ⟨HMV.out, HLL.out, HHH.out, fun i f h1 h2 => HALL.out i f (by have := getElem?_lt h2; have := HN.out; omega) h1 h2⟩).symm, HQ.out⟩

set_option maxHeartbeats 2000000 in
theorem l7Free_c (t : TableD) (A : Option Addr) (c : Nat) (B : Option Addr) (d : Nat) (w : World) (hy : Rd w B t.frames) (hm : t.frames.length ≤ 1048576) :
    Calls Tryd.prog 43 #[.agg #[.slice A t.buckets.length c, .slice B t.frames.length d]] w fun r w' => r = .returned (.int .i64 (freeF_ t)) ∧ Ex w w' := by
  have B1 := Lib.hid (fun k' f => @firstOf_at _ (fun f : FrameD => !f.used) t.frames k' f)
  have B2 := Lib.hid (@firstOf_none _ (fun f : FrameD => !f.used) t.frames)
  unfold freeF_
  generalize firstOf (fun f : FrameD => !f.used) t.frames = res at *
  obtain ⟨n, hn1⟩ : ∃ n, n = t.frames.length := ⟨_, rfl⟩
  have HN := Lib.hid hn1
  rw [← hn1] at B2 hm ⊢
  generalize t.buckets.length = nb
  have HY := Lib.hid hy
  clear hn1 hy
  go_enter Tryd.func43, Tryd.ntmps43
  go_wp2
  obtain ⟨w0, hw0⟩ : ∃ w0 : World, w0 = w.alloc (.cells #[.slice A nb c, .slice B n d] 38) := ⟨_, rfl⟩
  obtain ⟨gb, hgb⟩ : ∃ gb : Nat, gb = w.heap.size := ⟨_, rfl⟩
  have K0 : Hid (Blk w0 gb 38 [.slice A nb c, .slice B n d]) := Lib.hid (by rw [hw0, hgb]; exact Blk.new w _ _)
  have E0 : Hid (Ex w w0) := Lib.hid (by rw [hw0]; exact (Ex.refl w).alloc _)
  rw [← hw0, ← hgb]
  clear hw0 hgb
  go_loopw [3] (fun i wr => ∃ k : Nat, k ≤ n ∧ i = .int .i64 k ∧ Ex w0 wr ∧ ∀ (j : Nat) (y : FrameD), j < k → t.frames[j]? = some y → (!y.used) = false) (fun i _ => n - (intOf i).toNat)
  case atStart => exact ⟨0, Nat.zero_le _, rfl, Ex.refl _, fun j y h => by omega⟩
  case round =>
    obtain ⟨k, hk, rfl, hbel, hcl⟩ := hrel
    have HB := Lib.hid hbel
    have HCL := Lib.hid hcl
    clear hbel hcl
    obtain ⟨q0, q1⟩ := (K0.out.ex HB.out).c2
    have lb := (K0.out.ex HB.out).lt
    by_cases hlt : k < n
    · obtain ⟨b1, o1, f, rfl, hb1, hxk, h0, h1, h2, h3, h4⟩ := Rd.frame ((HY.out.ex E0.out).ex HB.out) (k := k) (by have := HN.out; omega)
      have HXK := Lib.hid hxk
      clear hxk
      cases hu : f.used
      · rw [hu] at h0
        obtain rfl : res = (k : Int) := B1.out k f HXK.out (by rw [hu]; rfl) HCL.out
        clear hu
        go_wp2
        go_ret
        exact ⟨rfl, E0.out.trans HB.out⟩
      · rw [hu] at h0
        have HU := Lib.hid hu
        clear hu
        go_wp2
        go_roundw
        case rel => exact ⟨k + 1, by omega, by go_num, HB.out, fun j z hj hz => by
          by_cases e : j = k
          · subst e
            have := HXK.out
            rw [this] at hz
            injection hz with hz
            rw [← hz, HU.out]; rfl
          · exact HCL.out j z (by omega) hz⟩
        case measure => simp [intOf]; omega
    · obtain rfl : k = n := by omega
      obtain rfl : res = -1 := B2.out HCL.out
      go_wp2
      go_ret
      exact ⟨rfl, E0.out.trans HB.out⟩

theorem freeF_range (t : TableD) : freeF_ t = -1 ∨ ∃ k : Nat, freeF_ t = (k : Int) := by
  rcases firstOf_cases (fun f : FrameD => !f.used) t.frames with ⟨h, _⟩ | ⟨k, _, h, _⟩
  · exact .inl h
  · exact .inr ⟨k, h⟩

set_option maxHeartbeats 2000000 in
theorem freeS_c (x : MemD) (a : MA) (K : Option Addr) (kc : Nat) (w : World) (hx : HasE w x a K) (hf : FewE x) (hc : CapE x a kc) :
    Calls Tryd.prog 16 #[.agg #[.slice a.b x.mach.table.buckets.length a.bc, .slice a.f x.mach.table.frames.length a.fc, .slice a.l x.mach.cache.lines.length a.lc, .int .i64 x.mach.cache.hand, .int .i64 x.mach.tags.count, .int .i64 x.mach.tags.next, .int .i64 x.mach.tags.round, .slice a.o x.mach.tags.owns.length a.oc, .int .i64 x.mach.space, .slice K x.marks.length kc, .int .i64 x.hand]] w fun r w' => r = .returned (.tuple #[.int .i64 (freeOf x).1, .bool (freeOf x).2]) ∧ Ex w w' := by
  obtain ⟨A, c, B, d, L, e, O, g⟩ := a
  have HX := Lib.hid hx
  have C0 := Lib.hid (fun w' (h : HasE w' x ⟨A, c, B, d, L, e, O, g⟩ K) => l7Free_c x.mach.table A c B d w' h.m.f hf.m.f)
  have C1 := Lib.hid (fun w' (h : HasE w' x ⟨A, c, B, d, L, e, O, g⟩ K) => memS_c x ⟨A, c, B, d, L, e, O, g⟩ K kc w' h hf hc)
  dsimp only at C1 ⊢
  unfold freeOf
  rw [show (if memV x = true ∧ 0 ≤ freeF_ x.mach.table then (freeF_ x.mach.table, true) else ((0 : Int), false)) = (if memV x = true then (if 0 ≤ freeF_ x.mach.table then (freeF_ x.mach.table, true) else (0, false)) else (0, false)) from by by_cases h1 : memV x = true <;> by_cases h2 : 0 ≤ freeF_ x.mach.table <;> simp [h1, h2]]
  generalize freeF_ x.mach.table = fv at C0 ⊢
  generalize x.mach.table.frames.length = n at C0 C1 ⊢
  generalize x.mach.table.buckets.length = nb at C0 C1 ⊢
  generalize x.mach.cache.lines.length = nl at C1 ⊢
  generalize x.mach.tags.owns.length = no at C1 ⊢
  generalize x.marks.length = nm at C1 ⊢
  clear hx hf hc
  cases hm : memV x
  · rw [hm] at C1
    clear hm
    simp only [Bool.false_eq_true, if_false]
    go_enter Tryd.func16, Tryd.ntmps16
    go_wp2_with fail
    have K0 : Hid (Blk (w.alloc (.cells #[.slice A nb c, .slice B n d, .slice L nl e, .int .i64 x.mach.cache.hand, .int .i64 x.mach.tags.count, .int .i64 x.mach.tags.next, .int .i64 x.mach.tags.round, .slice O no g, .int .i64 x.mach.space, .slice K nm kc, .int .i64 x.hand] 56)) w.heap.size 56 [.slice A nb c, .slice B n d, .slice L nl e, .int .i64 x.mach.cache.hand, .int .i64 x.mach.tags.count, .int .i64 x.mach.tags.next, .int .i64 x.mach.tags.round, .slice O no g, .int .i64 x.mach.space, .slice K nm kc, .int .i64 x.hand]) := Lib.hid (Blk.new w _ _)
    have E0 : Hid (Ex w (w.alloc (.cells #[.slice A nb c, .slice B n d, .slice L nl e, .int .i64 x.mach.cache.hand, .int .i64 x.mach.tags.count, .int .i64 x.mach.tags.next, .int .i64 x.mach.tags.round, .slice O no g, .int .i64 x.mach.space, .slice K nm kc, .int .i64 x.hand] 56))) := Lib.hid ((Ex.refl w).alloc _)
    refine (C0.out _ (HX.out.ex E0.out)).mono ?_
    rintro r w1 ⟨rfl, he1⟩
    have E1 := Lib.hid (E0.out.trans he1)
    have K1 := Lib.hid (K0.out.ex he1)
    clear he1 E0 K0
    obtain ⟨q0, q1, q2, q3, q4, q5, q6, q7, q8, q9, q10⟩ := K1.out.c11
    have jM := K1.out.lt
    go_wp2_with fail
    refine (C1.out _ (HX.out.ex E1.out)).mono ?_
    rintro r w2 ⟨rfl, he2⟩
    clear q0 q1 q2 q3 q4 q5 q6 q7 q8 q9 q10 jM
    go_wp2
    go_ret2
    exact ⟨rfl, E1.out.trans he2⟩
  rw [hm] at C1
  clear hm
  simp only [if_true]
  by_cases h0 : 0 ≤ fv
  · rw [if_pos h0]
    have h0' : ¬ fv < 0 := by omega
    go_enter Tryd.func16, Tryd.ntmps16
    go_wp2_with fail
    have K0 : Hid (Blk (w.alloc (.cells #[.slice A nb c, .slice B n d, .slice L nl e, .int .i64 x.mach.cache.hand, .int .i64 x.mach.tags.count, .int .i64 x.mach.tags.next, .int .i64 x.mach.tags.round, .slice O no g, .int .i64 x.mach.space, .slice K nm kc, .int .i64 x.hand] 56)) w.heap.size 56 [.slice A nb c, .slice B n d, .slice L nl e, .int .i64 x.mach.cache.hand, .int .i64 x.mach.tags.count, .int .i64 x.mach.tags.next, .int .i64 x.mach.tags.round, .slice O no g, .int .i64 x.mach.space, .slice K nm kc, .int .i64 x.hand]) := Lib.hid (Blk.new w _ _)
    have E0 : Hid (Ex w (w.alloc (.cells #[.slice A nb c, .slice B n d, .slice L nl e, .int .i64 x.mach.cache.hand, .int .i64 x.mach.tags.count, .int .i64 x.mach.tags.next, .int .i64 x.mach.tags.round, .slice O no g, .int .i64 x.mach.space, .slice K nm kc, .int .i64 x.hand] 56))) := Lib.hid ((Ex.refl w).alloc _)
    refine (C0.out _ (HX.out.ex E0.out)).mono ?_
    rintro r w1 ⟨rfl, he1⟩
    have E1 := Lib.hid (E0.out.trans he1)
    have K1 := Lib.hid (K0.out.ex he1)
    clear he1 E0 K0
    obtain ⟨q0, q1, q2, q3, q4, q5, q6, q7, q8, q9, q10⟩ := K1.out.c11
    have jM := K1.out.lt
    go_wp2_with fail
    refine (C1.out _ (HX.out.ex E1.out)).mono ?_
    rintro r w2 ⟨rfl, he2⟩
    clear q0 q1 q2 q3 q4 q5 q6 q7 q8 q9 q10 jM
    go_wp2
    go_ret2
    exact ⟨rfl, E1.out.trans he2⟩
  · rw [if_neg h0]
    have h0' : fv < 0 := by omega
    go_enter Tryd.func16, Tryd.ntmps16
    go_wp2_with fail
    have K0 : Hid (Blk (w.alloc (.cells #[.slice A nb c, .slice B n d, .slice L nl e, .int .i64 x.mach.cache.hand, .int .i64 x.mach.tags.count, .int .i64 x.mach.tags.next, .int .i64 x.mach.tags.round, .slice O no g, .int .i64 x.mach.space, .slice K nm kc, .int .i64 x.hand] 56)) w.heap.size 56 [.slice A nb c, .slice B n d, .slice L nl e, .int .i64 x.mach.cache.hand, .int .i64 x.mach.tags.count, .int .i64 x.mach.tags.next, .int .i64 x.mach.tags.round, .slice O no g, .int .i64 x.mach.space, .slice K nm kc, .int .i64 x.hand]) := Lib.hid (Blk.new w _ _)
    have E0 : Hid (Ex w (w.alloc (.cells #[.slice A nb c, .slice B n d, .slice L nl e, .int .i64 x.mach.cache.hand, .int .i64 x.mach.tags.count, .int .i64 x.mach.tags.next, .int .i64 x.mach.tags.round, .slice O no g, .int .i64 x.mach.space, .slice K nm kc, .int .i64 x.hand] 56))) := Lib.hid ((Ex.refl w).alloc _)
    refine (C0.out _ (HX.out.ex E0.out)).mono ?_
    rintro r w1 ⟨rfl, he1⟩
    have E1 := Lib.hid (E0.out.trans he1)
    have K1 := Lib.hid (K0.out.ex he1)
    clear he1 E0 K0
    obtain ⟨q0, q1, q2, q3, q4, q5, q6, q7, q8, q9, q10⟩ := K1.out.c11
    have jM := K1.out.lt
    go_wp2_with fail
    refine (C1.out _ (HX.out.ex E1.out)).mono ?_
    rintro r w2 ⟨rfl, he2⟩
    clear q0 q1 q2 q3 q4 q5 q6 q7 q8 q9 q10 jM
    go_wp2
    go_ret2
    exact ⟨rfl, E1.out.trans he2⟩

set_option maxHeartbeats 2000000 in
theorem freeI_c (x : MemD) (a : MA) (K : Option Addr) (kc : Nat) (w : World) (hx : HasE w x a K) (hf : FewE x) (hc : CapE x a kc) (hv : FreeV w) :
    Calls Tryd.prog 17 #[.agg #[.slice a.b x.mach.table.buckets.length a.bc, .slice a.f x.mach.table.frames.length a.fc, .slice a.l x.mach.cache.lines.length a.lc, .int .i64 x.mach.cache.hand, .int .i64 x.mach.tags.count, .int .i64 x.mach.tags.next, .int .i64 x.mach.tags.round, .slice a.o x.mach.tags.owns.length a.oc, .int .i64 x.mach.space, .slice K x.marks.length kc, .int .i64 x.hand]] w fun r w' => r = .returned (.tuple #[.int .i64 (freeOf x).1, .bool (freeOf x).2]) ∧ Ex w w' := by
  obtain ⟨A, c, B, d, L, e, O, g⟩ := a
  have HX := Lib.hid hx
  have HV := Lib.hid hv
  have HF : Hid (Rd w B x.mach.table.frames) := Lib.hid hx.m.f
  have C1 := Lib.hid (fun w' (h : HasE w' x ⟨A, c, B, d, L, e, O, g⟩ K) (h2 : FreeV w') => memI_c x ⟨A, c, B, d, L, e, O, g⟩ K kc w' h hf hc h2)
  dsimp only at C1 ⊢
  have B1 := Lib.hid (fun k' f => @firstOf_at _ (fun f : FrameD => !f.used) x.mach.table.frames k' f)
  have B2 := Lib.hid (@firstOf_none _ (fun f : FrameD => !f.used) x.mach.table.frames)
  unfold freeOf
  rw [show (if memV x = true ∧ 0 ≤ freeF_ x.mach.table then (freeF_ x.mach.table, true) else ((0 : Int), false)) = (if memV x = true then (if 0 ≤ freeF_ x.mach.table then (freeF_ x.mach.table, true) else (0, false)) else (0, false)) from by by_cases h1 : memV x = true <;> by_cases h2 : 0 ≤ freeF_ x.mach.table <;> simp [h1, h2]]
  unfold freeF_
  generalize firstOf (fun f : FrameD => !f.used) x.mach.table.frames = res at B1 B2 ⊢
  obtain ⟨n, en⟩ : ∃ n, n = x.mach.table.frames.length := ⟨_, rfl⟩
  have HN := Lib.hid en
  have hfn : n ≤ 1048576 := by rw [en]; exact hf.m.f
  rw [← en] at C1 B2 ⊢
  generalize x.mach.table.buckets.length = nb at C1 ⊢
  generalize x.mach.cache.lines.length = nl at C1 ⊢
  generalize x.mach.tags.owns.length = no at C1 ⊢
  generalize x.marks.length = nm at C1 ⊢
  clear hx hf hc hv en
  cases hm : memV x
  · rw [hm] at C1
    clear hm
    simp only [Bool.false_eq_true, if_false]
    go_enter Tryd.func17, Tryd.ntmps17
    go_wp2_with fail
    have K0 : Hid (Blk (w.alloc (.cells #[.slice A nb c, .slice B n d, .slice L nl e, .int .i64 x.mach.cache.hand, .int .i64 x.mach.tags.count, .int .i64 x.mach.tags.next, .int .i64 x.mach.tags.round, .slice O no g, .int .i64 x.mach.space, .slice K nm kc, .int .i64 x.hand] 56)) w.heap.size 56 [.slice A nb c, .slice B n d, .slice L nl e, .int .i64 x.mach.cache.hand, .int .i64 x.mach.tags.count, .int .i64 x.mach.tags.next, .int .i64 x.mach.tags.round, .slice O no g, .int .i64 x.mach.space, .slice K nm kc, .int .i64 x.hand]) := Lib.hid (Blk.new w _ _)
    have E0 : Hid (Ex w (w.alloc (.cells #[.slice A nb c, .slice B n d, .slice L nl e, .int .i64 x.mach.cache.hand, .int .i64 x.mach.tags.count, .int .i64 x.mach.tags.next, .int .i64 x.mach.tags.round, .slice O no g, .int .i64 x.mach.space, .slice K nm kc, .int .i64 x.hand] 56))) := Lib.hid ((Ex.refl w).alloc _)
    refine (C1.out _ (HX.out.ex E0.out) (HV.out.ex E0.out)).mono ?_
    rintro r w1 ⟨rfl, he1⟩
    have E1 := Lib.hid (E0.out.trans he1)
    have K1 := Lib.hid (K0.out.ex he1)
    clear he1 E0 K0
    obtain ⟨q0, q1, q2, q3, q4, q5, q6, q7, q8, q9, q10⟩ := K1.out.c11
    have jM := K1.out.lt
    go_wp2
    go_ret2
    exact ⟨rfl, E1.out⟩
  rw [hm] at C1
  clear hm
  simp only [if_true]
  go_enter Tryd.func17, Tryd.ntmps17
  go_wp2_with fail
  have K0 : Hid (Blk (w.alloc (.cells #[.slice A nb c, .slice B n d, .slice L nl e, .int .i64 x.mach.cache.hand, .int .i64 x.mach.tags.count, .int .i64 x.mach.tags.next, .int .i64 x.mach.tags.round, .slice O no g, .int .i64 x.mach.space, .slice K nm kc, .int .i64 x.hand] 56)) w.heap.size 56 [.slice A nb c, .slice B n d, .slice L nl e, .int .i64 x.mach.cache.hand, .int .i64 x.mach.tags.count, .int .i64 x.mach.tags.next, .int .i64 x.mach.tags.round, .slice O no g, .int .i64 x.mach.space, .slice K nm kc, .int .i64 x.hand]) := Lib.hid (Blk.new w _ _)
  have E0 : Hid (Ex w (w.alloc (.cells #[.slice A nb c, .slice B n d, .slice L nl e, .int .i64 x.mach.cache.hand, .int .i64 x.mach.tags.count, .int .i64 x.mach.tags.next, .int .i64 x.mach.tags.round, .slice O no g, .int .i64 x.mach.space, .slice K nm kc, .int .i64 x.hand] 56))) := Lib.hid ((Ex.refl w).alloc _)
  refine (C1.out _ (HX.out.ex E0.out) (HV.out.ex E0.out)).mono ?_
  rintro r w1 ⟨rfl, he1⟩
  have E1 := Lib.hid (E0.out.trans he1)
  have K1 := Lib.hid (K0.out.ex he1)
  clear he1 E0 K0
  obtain ⟨q0, q1, q2, q3, q4, q5, q6, q7, q8, q9, q10⟩ := K1.out.c11
  have jM := K1.out.lt
  go_wp2
  clear q0 q1 q2 q3 q4 q5 q6 q7 q8 q9 q10 jM C1
  go_loopw [14] (fun i wr => ∃ k : Nat, k ≤ n ∧ i = .int .i64 k ∧ Ex w1 wr ∧ ∀ (j : Nat) (y : FrameD), j < k → x.mach.table.frames[j]? = some y → (!y.used) = false) (fun i _ => n - (intOf i).toNat)
  case atStart => exact ⟨0, Nat.zero_le _, rfl, Ex.refl _, fun j y h => by omega⟩
  case round =>
    obtain ⟨k, hk, rfl, hbel, hcl⟩ := hrel
    have HB := Lib.hid (E1.out.trans hbel)
    have HB1 := Lib.hid hbel
    have HCL := Lib.hid hcl
    clear hbel hcl
    by_cases hlt : k < n
    · obtain ⟨b1, o1, f, rfl, hb1, hxk, h0, h1, h2, h3, h4⟩ := Rd.frame (HF.out.ex HB.out) (k := k) (by have := HN.out; omega)
      have HXK := Lib.hid hxk
      clear hxk
      cases hu : f.used
      · rw [hu] at h0
        obtain rfl : res = (k : Int) := B1.out k f HXK.out (by rw [hu]; rfl) HCL.out
        clear hu
        go_wp2
        go_ret2
        exact ⟨by simp, HB.out.alloc _⟩
      · rw [hu] at h0
        have HU := Lib.hid hu
        clear hu
        go_wp2
        go_roundw
        case rel => exact ⟨k + 1, by omega, by go_num, HB1.out.alloc _, fun j z hj hz => by
          by_cases e : j = k
          · subst e
            have := HXK.out
            rw [this] at hz
            injection hz with hz
            rw [← hz, HU.out]; rfl
          · exact HCL.out j z (by omega) hz⟩
        case measure => simp [intOf]; omega
    · obtain rfl : k = n := by omega
      obtain rfl : res = -1 := B2.out HCL.out
      go_wp2
      go_ret2
      exact ⟨by simp, HB.out⟩
end Go.Proofs.YtihlaecbdlgbiaaDoor
