/- TableValid of the program: the walk. -/
import Derived.Test.YtihlaecbdlgbiaaDoorVn
namespace Go.Proofs.YtihlaecbdlgbiaaDoor
open Go.ChangeShapes Go.WideShapes Go.ChangeAt Go.RowKit
open Rec (sz cs)
set_option linter.unusedVariables false
set_option maxRecDepth 100000

set_option maxHeartbeats 4000000 in
theorem tableI_c (t : TableD) (A : Option Addr) (c : Nat) (B : Option Addr) (d : Nat) (w : World) (hx : Rd w A t.buckets) (hy : Rd w B t.frames) (hn : t.buckets.length ≤ 1048576) (hm : t.frames.length ≤ 1048576) (hv : FreeV w) :
    Calls Tryd.prog 29 #[.agg #[.slice A t.buckets.length c, .slice B t.frames.length d]] w fun r w' => r = .returned (.bool (tableV t)) ∧ Ex w w' := by
  have CB := Lib.hid (fun w => bucketsValid_c (t.buckets.length : Int) w)
  by_cases hh : TableHead t
  rotate_left
  · rw [tableV_no (fun h => hh h.1)]
    have h3 : t.frames.length < 1 ∨ 16 < t.frames.length ∨ ((1 ≤ t.frames.length ∧ t.frames.length ≤ 16) ∧ bkB (t.buckets.length : Int) = false) := by
      unfold TableHead at hh
      by_cases g : 1 ≤ t.frames.length ∧ t.frames.length ≤ 16
      · exact .inr (.inr ⟨g, bkB_not.2 (by omega)⟩)
      · omega
    generalize t.frames.length = n at h3 hm ⊢
    generalize t.buckets.length = m at CB hn h3 ⊢
    clear hh hx hy hv
    rcases h3 with h1 | h1 | ⟨⟨h1, h2⟩, h3⟩
    · go_enter Tryd.func29, Tryd.ntmps29
      go_wp2
      go_ret
      exact ⟨rfl, (by repeat' (first | with_reducible exact Ex.refl _ | with_reducible refine Ex.alloc ?_ _ | with_reducible refine Ex.drew ?_ | with_reducible refine Ex.put ?_ (by omega) _))⟩
    · go_enter Tryd.func29, Tryd.ntmps29
      go_wp2
      go_ret
      exact ⟨rfl, (by repeat' (first | with_reducible exact Ex.refl _ | with_reducible refine Ex.alloc ?_ _ | with_reducible refine Ex.drew ?_ | with_reducible refine Ex.put ?_ (by omega) _))⟩
    · rw [h3] at CB
      clear h3
      go_enter Tryd.func29, Tryd.ntmps29
      go_wp2_with fail
      refine (CB.out _).mono ?_
      rintro r w1 ⟨rfl, rfl⟩
      go_wp2
      go_ret
      exact ⟨rfl, (by repeat' (first | with_reducible exact Ex.refl _ | with_reducible refine Ex.alloc ?_ _ | with_reducible refine Ex.drew ?_ | with_reducible refine Ex.put ?_ (by omega) _))⟩
  rw [show bkB (t.buckets.length : Int) = true from bkB_iff.2 (by unfold TableHead at hh; omega)] at CB
  have HH := Lib.hid hh
  obtain ⟨⟨hn1, hn2⟩, hm1, hm2⟩ := hh
  have HX := Lib.hid hx
  have HY := Lib.hid hy
  obtain ⟨n, en⟩ : ∃ n, n = t.frames.length := ⟨_, rfl⟩
  obtain ⟨m, em⟩ : ∃ m, m = t.buckets.length := ⟨_, rfl⟩
  have HN := Lib.hid en
  have HM := Lib.hid em
  rw [← en] at hn1 hn2 ⊢
  rw [← em] at hm1 hm2 CB ⊢
  have HNO : Hid (∀ w', Ex w w' → ¬ TableOk t → (Ending.returned (.bool false) = .returned (.bool (tableV t)) ∧ Ex w w')) := Lib.hid (fun w' h1 h2 => ⟨ret_bool (tableV_no h2).symm, h1⟩)
  have FK : Hid (∀ w', Ex w w' → (w'.cell? ⟨0, 0, none⟩ = some (.bool false) ∧ w'.cell? ⟨0, 1, none⟩ = some (.int .i64 0) ∧ w'.cell? ⟨0, 2, none⟩ = some (.int .i64 0) ∧ w'.cell? ⟨0, 3, none⟩ = some (.int .i64 0) ∧ w'.cell? ⟨0, 4, none⟩ = some (.int .i64 (-1)))) := Lib.hid (fun w' h => by
    have k := hv.ex h
    exact ⟨k.c0, k.c1, k.c2, k.c3, k.c4⟩)
  have h0w : 0 < w.heap.size := hv.lt
  clear hx hy hn hm en em hv
  go_enter Tryd.func29, Tryd.ntmps29
  go_wp2_with fail
  refine (CB.out _).mono ?_
  rintro r w1 ⟨rfl, rfl⟩
  clear CB
  have hmm := @run_makeMap Tryd.prog
  go_wp2
  clear hmm
  go_loopw [30] (fun i wr => ∃ (k : Nat) (S : List KeyD), k ≤ n ∧ i = .int .i64 k ∧ FramesUp t.frames k ∧ KeysUp t.frames k S ∧ HasKeys wr (w.heap.size + 1) (usedN t.frames k) S ∧ S.length = usedN t.frames k ∧ Blk wr w.heap.size 38 [.slice A m c, .slice B n d] ∧ Ex w wr) (fun i _ => n - (intOf i).toNat)
  case atStart => exact ⟨0, [], Nat.zero_le _, rfl, framesUp_zero _, keysUp_zero _, (by have h := HasKeys.made (w.alloc (.cells #[.slice A m c, .slice B n d] 38)); rw [usedN_zero]; simpa using h), rfl, (Blk.new _ _ _).alloc _, ((Ex.refl _).alloc _).alloc _⟩
  case round =>
    obtain ⟨k, S, hk, rfl, hup, hks, hmap, hsl, hbk, hex⟩ := hrel
    have HSL := Lib.hid hsl
    have HU := Lib.hid hup
    have HKS := Lib.hid hks
    have HMP := Lib.hid hmap
    have KX := Lib.hid hbk
    have HE := Lib.hid hex
    clear hup hks hmap hsl hbk hex
    by_cases hlt : k < n
    · obtain ⟨b2, o2, f, rfl, hb2, hfi, k0, k1, k2, k3, k4⟩ := (HY.out.ex HE.out).frame (k := k) (by have := HN.out; omega)
      have HFI := Lib.hid hfi
      have HUS := Lib.hid (usedN_succ hfi)
      clear hfi
      have hgw := Ex.size HE.out
      cases hu : f.used
      · have HFU := Lib.hid hu
        rw [hu] at k0
        obtain ⟨z0, z1, z2, z3, z4⟩ := FK.out wr HE.out
        have hz0 : 0 < wr.heap.size := by omega
        have hneq := neq_frame f freeF
        simp only [freeF, hu] at hneq
        have hgd := guardFrame
        cases hq : eqB f ⟨false, ⟨0, 0⟩, 0, -1⟩
        · rw [hq] at hneq
          have HQ := Lib.hid (eqB_false.1 hq)
          clear hu hq
          go_wp2
          go_ret
          exact HNO.out _ (HE.out.alloc _) (not_frames HFI.out (fun h => HQ.out (h.1.1 HFU.out)))
        · rw [hq] at hneq
          have HQ := Lib.hid (eqB_true.1 hq)
          clear hu hq
          go_wp2
          go_roundw
          case rel => exact ⟨k + 1, S, by omega, by go_num, framesUp_succ HU.out HFI.out ⟨fun _ => HQ.out, fun h => by rw [HFU.out] at h; cases h⟩ (fun j g h1 h2 h3 => by rw [HFU.out] at h3; cases h3), keysUp_no HKS.out HFI.out HFU.out, by rw [HUS.out, HFU.out]; exact HMP.out.ex ((Ex.refl _).alloc _), by rw [HUS.out, HFU.out]; exact HSL.out, KX.out.alloc _, HE.out.alloc _⟩
          case measure => simp [intOf]; omega
      · have HFU := Lib.hid hu
        rw [hu] at k0
        have C1 := Lib.hid (fun w => keyI_c f.key w)
        have C2 := Lib.hid (fun w => rightsI_c f.rights w)
        clear hu
        cases hkb : keyB f.key
        · rw [hkb] at C1
          have HB := Lib.hid hkb
          clear hkb
          go_wp2_with fail
          refine (C1.out _).mono ?_
          rintro r w2 ⟨rfl, he⟩
          have HE2 := Lib.hid ((HE.out.alloc _).trans he)
          clear he
          go_wp2
          go_ret
          exact HNO.out _ HE2.out (not_frames HFI.out (fun h => by have := keyB_iff.2 (h.1.2 HFU.out).1; rw [HB.out] at this; cases this))
        rw [hkb] at C1
        have HB : Hid (keyOk f.key) := Lib.hid (keyB_iff.1 hkb)
        clear hkb
        go_wp2_with fail
        refine (C1.out _).mono ?_
        rintro r w2 ⟨rfl, he⟩
        have HE2 := Lib.hid ((HE.out.alloc _).trans he)
        have KF : Hid (Blk w2 wr.heap.size 72 [.bool true, .int .i64 f.key.space, .int .i64 f.key.page, .int .i64 f.rights, .int .i64 f.next]) := Lib.hid ((Blk.new wr _ _).ex he)
        have KX2 := Lib.hid ((KX.out.alloc _).ex he)
        have HMP2 := Lib.hid ((HMP.out.ex ((Ex.refl _).alloc _)).ex he)
        clear he k0 k1 k2 k3 k4
        obtain ⟨k0, k1, k2, k3, k4⟩ := KF.out.c5
        have jF := KF.out.lt
        cases hrb : inB f.rights 8
        · rw [hrb] at C2
          have HR := Lib.hid hrb
          clear hrb
          go_wp2_with fail
          refine (C2.out _).mono ?_
          rintro r w3 ⟨rfl, rfl⟩
          go_wp2
          go_ret
          exact HNO.out _ HE2.out (not_frames HFI.out (fun h => by have := inB_true.2 (h.1.2 HFU.out).2; rw [HR.out] at this; cases this))
        rw [hrb] at C2
        have HR := Lib.hid (inB_true.1 hrb)
        clear hrb
        obtain ⟨lk, hlk⟩ := keyOf_key f.key (WalkArith.wf_i64 (by have := HB.out.1; omega)) (WalkArith.wf_i64 (by have := HB.out.2; omega))
        have HLK := Lib.hid hlk
        have hloo := HMP2.out.look f.key hlk
        clear hlk
        by_cases hin : f.key ∈ S
        · rw [decide_eq_true hin] at hloo
          have HIN := Lib.hid hin
          clear hin
          go_wp2_with fail
          refine (C2.out _).mono ?_
          rintro r w3 ⟨rfl, rfl⟩
          go_wp2
          go_ret
          exact HNO.out _ HE2.out (not_frames HFI.out (fun h => key_again HKS.out HIN.out HFU.out h.2))
        · rw [decide_eq_false hin] at hloo
          have HIN := Lib.hid hin
          have hul := usedN_le t.frames k
          clear hin
          go_wp2_with fail
          refine (C2.out _).mono ?_
          rintro r w3 ⟨rfl, rfl⟩
          go_wp2_with (at_mapUpdate; go_must (refine wpList_put_key _ rfl _ _ _ rfl (w.heap.size + 1) (usedN t.frames k) S rfl HMP2.out (by simp only [maxLen]; omega) f.key HIN.out rfl rfl HLK.out ?_); intro w4 hs4 hg4)
          go_roundw
          case rel => exact ⟨k + 1, f.key :: S, by omega, by go_num, framesUp_succ HU.out HFI.out ⟨(fun h => by rw [HFU.out] at h; cases h), (fun _ => ⟨HB.out, HR.out⟩)⟩ (key_fresh HKS.out HIN.out), keysUp_yes HKS.out HFI.out HFU.out, by rw [HUS.out, HFU.out]; exact hs4, by rw [HUS.out, HFU.out, List.length_cons, HSL.out]; rfl, KX2.out.grown hg4 (by intro e; injection e with e; omega), HE2.out.grown hg4 (fun g hg => by injection hg with hg; omega)⟩
          case measure => simp [intOf]; omega
    · -- BUCKETS
      obtain rfl : k = n := by omega
      have HU3 : Hid (FramesUp t.frames t.frames.length) := Lib.hid (by rw [← HN.out]; exact HU.out)
      have hul := usedN_le t.frames k
      have HUN : Hid (usedN t.frames k = usedN t.frames t.frames.length) := Lib.hid (by rw [← HN.out])
      generalize usedN t.frames k = un at hul HUN HMP HSL
      obtain ⟨q0, q1⟩ := KX.out.c2
      have jX := KX.out.lt
      have HIS0 := Lib.hid (IntSet.made wr)
      have HMP0 := Lib.hid (HMP.out.ex ((Ex.refl wr).alloc (.map #[] 0)))
      have KX0 := Lib.hid (KX.out.alloc (.map #[] 0))
      have HE0 := Lib.hid (HE.out.alloc (.map #[] 0))
      have HG0 : Hid (w.heap.size + 1 < wr.heap.size ∧ w.heap.size < wr.heap.size) := Lib.hid ⟨HMP.out.lt, jX⟩
      have hmm := @run_makeMap Tryd.prog
      clear HU HKS HMP KX HE
      go_wp2
      clear hmm q0 q1 jX
      obtain ⟨wa, hwa⟩ : ∃ wa : World, wa = wr.alloc (.map #[] 0) := ⟨_, rfl⟩
      obtain ⟨g, hg⟩ : ∃ g, g = wr.heap.size := ⟨_, rfl⟩
      rw [← hwa, ← hg] at HIS0
      rw [← hwa] at HMP0 KX0 HE0
      rw [← hg] at HG0
      rw [← hwa, ← hg]
      clear hwa hg
      go_loopw [75] (fun i wb => ∃ (b : Nat) (ls : List (List Nat)) (S2 : List Int), b ≤ m ∧ i = .int .i64 b ∧ Buckets t b ls ∧ MetUp k ls [] S2 ∧ IntSet wb g (sumL ls) S2 ∧ HasKeys wb (w.heap.size + 1) un S ∧ Blk wb w.heap.size 38 [.slice A m c, .slice B k d] ∧ Ex w wb) (fun i _ => m - (intOf i).toNat)
      case atStart => exact ⟨0, [], [], Nat.zero_le _, rfl, Buckets.zero _, MetUp.zero _, HIS0.out, HMP0.out, KX0.out, HE0.out⟩
      case round =>
        clear HIS0 HMP0 KX0 HE0
        obtain ⟨b, ls, S2, hb, rfl, hbu, hmu, his, hmp, hkx, hexb⟩ := hrel
        have HBU := Lib.hid hbu
        have HMU := Lib.hid hmu
        have HIS := Lib.hid his
        have HMP := Lib.hid hmp
        have KX := Lib.hid hkx
        have HE := Lib.hid hexb
        clear hbu hmu his hmp hkx hexb
        by_cases hbm : b < m
        · obtain ⟨b5, o5, y, rfl, hb5, hyb, hcy⟩ := (HX.out.ex HE.out).int (k := b) (by have := HM.out; omega)
          have HA0 := Lib.hid hyb
          have HB5 : Hid (b < t.buckets.length) := Lib.hid (by have := HM.out; omega)
          clear hyb
          obtain ⟨q0, q1⟩ := KX.out.c2
          have jX := KX.out.lt
          go_wp2
          clear q0 q1 jX hcy hb5
          go_loopw [9] (fun i wq => ∃ (pre : List Nat) (a : Int) (S3 : List Int), i = .int .i64 a ∧ Trail t.frames y pre a ∧ (∀ (x : Nat) (f : FrameD), x ∈ pre → t.frames[x]? = some f → hashK f.key t.buckets.length = b) ∧ MetUp k ls pre S3 ∧ IntSet wq g (sumL ls + pre.length) S3 ∧ HasKeys wq (w.heap.size + 1) un S ∧ Blk wq w.heap.size 38 [.slice (some ⟨b5, o5, none⟩) m c, .slice B k d] ∧ Ex w wq) (fun _ wq => k + 1 - mapN wq g)
          case atStart => exact ⟨[], y, S2, rfl, Trail.start _ _, (fun x f h => by cases h), HMU.out, HIS.out, HMP.out, KX.out, HE.out⟩
          case round =>
            clear HMU HIS HMP KX HE S2
            obtain ⟨pre, a, S3, rfl, htr, hph, hmu, his, hmp, hkx, hexq⟩ := hrel
            have HTR := Lib.hid htr
            have HPH := Lib.hid hph
            have HMU := Lib.hid hmu
            have HIS := Lib.hid his
            have HMP := Lib.hid hmp
            have KX := Lib.hid hkx
            have HE := Lib.hid hexq
            clear htr hph hmu his hmp hkx hexq
            by_cases ha1 : a = -1
            · subst ha1
              go_wp2
              go_roundw
              case rel => exact ⟨b + 1, ls ++ [pre], S3, by omega, by go_num, Trail.done HBU.out HA0.out HTR.out HPH.out, HMU.out.next, by rw [sumL_succ]; exact HIS.out, HMP.out, KX.out, HE.out⟩
              case measure => simp [intOf]; omega
            have CEW : Hid (∀ (args : Array Value) (w : World), (callFunc 41 args).run Tryd.prog w = .ok (.enter 41 args) w) := Lib.hid (enters Tryd.func41 (by kernel_rfl) (by kernel_rfl))
            have CEH : Hid (∀ (args : Array Value) (w : World), (callFunc 64 args).run Tryd.prog w = .ok (.enter 64 args) w) := Lib.hid (enters Tryd.func64 (by kernel_rfl) (by kernel_rfl))
            have CW := Lib.hid (fun w => within_c a (k : Int) w)
            by_cases hin : 0 ≤ a ∧ a < k
            rotate_left
            · rw [show inB a (k : Int) = false from by cases h : inB a (k : Int); rfl; exact absurd (inB_true.1 h) hin] at CW
              have HIN := Lib.hid hin
              have HA1 := Lib.hid ha1
              clear hin
              go_wp2_with fail
              refine wp_region_held_drew (S := (fun w' => True)) (by kernel_rfl) ?r0_hS0 (fun hHeld => ?_)
              case r0_hS0 => exact trivial
              refine wpAnyH_take (i := 0) (oi := ?r0_o0) (v := ?r0_v0) ?r0_ho0 (by kernel_rfl) (by kernel_rfl) (by kernel_rfl) ?r0_hq0 ?r0_hy0 (by assumption) ?_
              case r0_ho0 => (conv => lhs; whnf; arg 1; whnf)
              case r0_hq0 => exact fun _ _ _ h => h
              case r0_hy0 => (refine Or.inl ⟨by rfl, ?_⟩; intro w hSw; (try dsimp only at hSw); first | (go_simp; done) | (go_simp; with_reducible rfl))
              try simp only [Act.put, List.setIfInBounds_toArray, List.set_cons_zero, List.set_cons_succ]
              refine wpAnyH_take (i := 1) (oi := ?r0_o1) (v := ?r0_v1) ?r0_ho1 (by kernel_rfl) (by kernel_rfl) (by kernel_rfl) ?r0_hq1 ?r0_hy1 (by assumption) ?_
              case r0_ho1 => (conv => lhs; whnf; arg 1; whnf)
              case r0_hq1 => exact fun _ _ _ h => h
              case r0_hy1 => (refine Or.inl ⟨by rfl, ?_⟩; intro w hSw; (try dsimp only at hSw); first | (go_simp; done) | (go_simp; with_reducible rfl))
              try simp only [Act.put, List.setIfInBounds_toArray, List.set_cons_zero, List.set_cons_succ]
              refine wpAnyH_ready (rs := [2]) (by kernel_rfl) (by simp) ?_
              refine AllReadyH.cons (o := ?r0_o2) ?r0_ho2 (fun K hK => ?_) AllReadyH.nil
              case r0_ho2 => (conv => lhs; whnf; arg 1; whnf)
              refine step_call_gu rfl CEW.out _ _ rfl #[.int .i64 a, .int .i64 k] rfl (CW.out _) ?_; rintro r wb ⟨rfl, rfl⟩; refine ⟨_, rfl, ?_⟩
              refine hK.out _ _ ?r0_hS2 (fun hHeld2 => ?_)
              case r0_hS2 => exact trivial
              clear hK K hHeld
              try simp only [Act.put, List.setIfInBounds_toArray, List.set_cons_zero, List.set_cons_succ]
              refine wpAnyH_take (i := 3) (oi := ?r0_o3) (v := ?r0_v3) ?r0_ho3 (by kernel_rfl) (by kernel_rfl) (by kernel_rfl) ?r0_hq3 ?r0_hy3 (by assumption) ?_
              case r0_ho3 => (conv => lhs; whnf; arg 1; whnf)
              case r0_hq3 => exact fun _ _ _ h => h
              case r0_hy3 => (refine Or.inl ⟨by rfl, ?_⟩; intro w hSw; (try dsimp only at hSw); first | (go_simp; done) | (go_simp; with_reducible rfl))
              try simp only [Act.put, List.setIfInBounds_toArray, List.set_cons_zero, List.set_cons_succ]
              refine wpAnyH_take (i := 4) (oi := ?r0_o4) (v := ?r0_v4) ?r0_ho4 (by kernel_rfl) (by kernel_rfl) (by kernel_rfl) ?r0_hq4 ?r0_hy4 (by assumption) ?_
              case r0_ho4 => (conv => lhs; whnf; arg 1; whnf)
              case r0_hq4 => exact fun _ _ _ h => h
              case r0_hy4 => (refine Or.inl ⟨by rfl, ?_⟩; intro w hSw; (try dsimp only at hSw); first | (go_simp; done) | (go_simp; with_reducible rfl))
              try simp only [Act.put, List.setIfInBounds_toArray, List.set_cons_zero, List.set_cons_succ]
              refine wpAnyH_take (i := 5) (oi := ?r0_o5) (v := undef) ?r0_ho5 (by kernel_rfl) (by kernel_rfl) (by kernel_rfl) ?r0_hq5 ?r0_hy5 (by assumption) ?_
              case r0_ho5 => (conv => lhs; whnf; arg 1; whnf)
              case r0_hq5 => exact fun _ _ _ h => h
              case r0_hy5 => exact Or.inr ⟨by rfl, rfl⟩
              try simp only [Act.put, List.setIfInBounds_toArray, List.set_cons_zero, List.set_cons_succ]
              refine wpAnyH_take (i := 6) (oi := ?r0_o6) (v := undef) ?r0_ho6 (by kernel_rfl) (by kernel_rfl) (by kernel_rfl) ?r0_hq6 ?r0_hy6 (by assumption) ?_
              case r0_ho6 => (conv => lhs; whnf; arg 1; whnf)
              case r0_hq6 => exact fun _ _ _ h => h
              case r0_hy6 => exact Or.inr ⟨by rfl, rfl⟩
              try simp only [Act.put, List.setIfInBounds_toArray, List.set_cons_zero, List.set_cons_succ]
              refine wpAnyH_take (i := 7) (oi := ?r0_o7) (v := undef) ?r0_ho7 (by kernel_rfl) (by kernel_rfl) (by kernel_rfl) ?r0_hq7 ?r0_hy7 (by assumption) ?_
              case r0_ho7 => (conv => lhs; whnf; arg 1; whnf)
              case r0_hq7 => exact fun _ _ _ h => h
              case r0_hy7 => exact Or.inr ⟨by rfl, rfl⟩
              try simp only [Act.put, List.setIfInBounds_toArray, List.set_cons_zero, List.set_cons_succ]
              refine wpAnyH_take (i := 8) (oi := ?r0_o8) (v := ?r0_v8) ?r0_ho8 (by kernel_rfl) (by kernel_rfl) (by kernel_rfl) ?r0_hq8 ?r0_hy8 (by assumption) ?_
              case r0_ho8 => (conv => lhs; whnf; arg 1; whnf)
              case r0_hq8 => exact fun _ _ _ h => h
              case r0_hy8 => (refine Or.inl ⟨by rfl, ?_⟩; intro w hSw; (try dsimp only at hSw); first | (go_simp; done) | (go_simp; with_reducible rfl))
              try simp only [Act.put, List.setIfInBounds_toArray, List.set_cons_zero, List.set_cons_succ]
              refine wpAnyH_take (i := 9) (oi := ?r0_o9) (v := ?r0_v9) ?r0_ho9 (by kernel_rfl) (by kernel_rfl) (by kernel_rfl) ?r0_hq9 ?r0_hy9 (by assumption) ?_
              case r0_ho9 => (conv => lhs; whnf; arg 1; whnf)
              case r0_hq9 => exact fun _ _ _ h => h
              case r0_hy9 => (refine Or.inl ⟨by rfl, ?_⟩; intro w hSw; (try dsimp only at hSw); first | (go_simp; done) | (go_simp; with_reducible rfl))
              try simp only [Act.put, List.setIfInBounds_toArray, List.set_cons_zero, List.set_cons_succ]
              refine wpAnyH_take (i := 10) (oi := ?r0_o10) (v := undef) ?r0_ho10 (by kernel_rfl) (by kernel_rfl) (by kernel_rfl) ?r0_hq10 ?r0_hy10 (by assumption) ?_
              case r0_ho10 => (conv => lhs; whnf; arg 1; whnf)
              case r0_hq10 => exact fun _ _ _ h => h
              case r0_hy10 => exact Or.inr ⟨by rfl, rfl⟩
              try simp only [Act.put, List.setIfInBounds_toArray, List.set_cons_zero, List.set_cons_succ]
              refine wpAnyH_take (i := 11) (oi := ?r0_o11) (v := undef) ?r0_ho11 (by kernel_rfl) (by kernel_rfl) (by kernel_rfl) ?r0_hq11 ?r0_hy11 (by assumption) ?_
              case r0_ho11 => (conv => lhs; whnf; arg 1; whnf)
              case r0_hq11 => exact fun _ _ _ h => h
              case r0_hy11 => exact Or.inr ⟨by rfl, rfl⟩
              try simp only [Act.put, List.setIfInBounds_toArray, List.set_cons_zero, List.set_cons_succ]
              refine wpAnyH_take (i := 12) (oi := ?r0_o12) (v := undef) ?r0_ho12 (by kernel_rfl) (by kernel_rfl) (by kernel_rfl) ?r0_hq12 ?r0_hy12 (by assumption) ?_
              case r0_ho12 => (conv => lhs; whnf; arg 1; whnf)
              case r0_hq12 => exact fun _ _ _ h => h
              case r0_hy12 => exact Or.inr ⟨by rfl, rfl⟩
              try simp only [Act.put, List.setIfInBounds_toArray, List.set_cons_zero, List.set_cons_succ]
              refine wpAnyH_take (i := 13) (oi := ?r0_o13) (v := undef) ?r0_ho13 (by kernel_rfl) (by kernel_rfl) (by kernel_rfl) ?r0_hq13 ?r0_hy13 (by assumption) ?_
              case r0_ho13 => (conv => lhs; whnf; arg 1; whnf)
              case r0_hq13 => exact fun _ _ _ h => h
              case r0_hy13 => exact Or.inr ⟨by rfl, rfl⟩
              try simp only [Act.put, List.setIfInBounds_toArray, List.set_cons_zero, List.set_cons_succ]
              refine wpAnyH_take (i := 14) (oi := ?r0_o14) (v := undef) ?r0_ho14 (by kernel_rfl) (by kernel_rfl) (by kernel_rfl) ?r0_hq14 ?r0_hy14 (by assumption) ?_
              case r0_ho14 => (conv => lhs; whnf; arg 1; whnf)
              case r0_hq14 => exact fun _ _ _ h => h
              case r0_hy14 => exact Or.inr ⟨by rfl, rfl⟩
              try simp only [Act.put, List.setIfInBounds_toArray, List.set_cons_zero, List.set_cons_succ]
              refine wpAnyH_take (i := 15) (oi := ?r0_o15) (v := undef) ?r0_ho15 (by kernel_rfl) (by kernel_rfl) (by kernel_rfl) ?r0_hq15 ?r0_hy15 (by assumption) ?_
              case r0_ho15 => (conv => lhs; whnf; arg 1; whnf)
              case r0_hq15 => exact fun _ _ _ h => h
              case r0_hy15 => exact Or.inr ⟨by rfl, rfl⟩
              try simp only [Act.put, List.setIfInBounds_toArray, List.set_cons_zero, List.set_cons_succ]
              refine wpAnyH_take (i := 16) (oi := ?r0_o16) (v := undef) ?r0_ho16 (by kernel_rfl) (by kernel_rfl) (by kernel_rfl) ?r0_hq16 ?r0_hy16 (by assumption) ?_
              case r0_ho16 => (conv => lhs; whnf; arg 1; whnf)
              case r0_hq16 => exact fun _ _ _ h => h
              case r0_hy16 => exact Or.inr ⟨by rfl, rfl⟩
              try simp only [Act.put, List.setIfInBounds_toArray, List.set_cons_zero, List.set_cons_succ]
              refine wpAnyH_take (i := 17) (oi := ?r0_o17) (v := ?r0_v17) ?r0_ho17 (by kernel_rfl) (by kernel_rfl) (by kernel_rfl) ?r0_hq17 ?r0_hy17 (by assumption) ?_
              case r0_ho17 => (conv => lhs; whnf; arg 1; whnf)
              case r0_hq17 => exact fun _ _ _ h => h
              case r0_hy17 => (refine Or.inl ⟨by rfl, ?_⟩; intro w hSw; (try dsimp only at hSw); first | (go_simp; done) | (go_simp; with_reducible rfl))
              try simp only [Act.put, List.setIfInBounds_toArray, List.set_cons_zero, List.set_cons_succ]
              refine wpAnyH_take (i := 18) (oi := ?r0_o18) (v := ?r0_v18) ?r0_ho18 (by kernel_rfl) (by kernel_rfl) (by kernel_rfl) ?r0_hq18 ?r0_hy18 (by assumption) ?_
              case r0_ho18 => (conv => lhs; whnf; arg 1; whnf)
              case r0_hq18 => exact fun _ _ _ h => h
              case r0_hy18 => (refine Or.inl ⟨by rfl, ?_⟩; intro w hSw; (try dsimp only at hSw); first | (go_simp; done) | (go_simp; with_reducible rfl))
              try simp only [Act.put, List.setIfInBounds_toArray, List.set_cons_zero, List.set_cons_succ]
              refine wpAnyH_take (i := 19) (oi := ?r0_o19) (v := undef) ?r0_ho19 (by kernel_rfl) (by kernel_rfl) (by kernel_rfl) ?r0_hq19 ?r0_hy19 (by assumption) ?_
              case r0_ho19 => (conv => lhs; whnf; arg 1; whnf)
              case r0_hq19 => exact fun _ _ _ h => h
              case r0_hy19 => exact Or.inr ⟨by rfl, rfl⟩
              try simp only [Act.put, List.setIfInBounds_toArray, List.set_cons_zero, List.set_cons_succ]
              refine wpAnyH_take (i := 20) (oi := ?r0_o20) (v := undef) ?r0_ho20 (by kernel_rfl) (by kernel_rfl) (by kernel_rfl) ?r0_hq20 ?r0_hy20 (by assumption) ?_
              case r0_ho20 => (conv => lhs; whnf; arg 1; whnf)
              case r0_hq20 => exact fun _ _ _ h => h
              case r0_hy20 => exact Or.inr ⟨by rfl, rfl⟩
              try simp only [Act.put, List.setIfInBounds_toArray, List.set_cons_zero, List.set_cons_succ]
              refine wpAnyH_take (i := 21) (oi := ?r0_o21) (v := undef) ?r0_ho21 (by kernel_rfl) (by kernel_rfl) (by kernel_rfl) ?r0_hq21 ?r0_hy21 (by assumption) ?_
              case r0_ho21 => (conv => lhs; whnf; arg 1; whnf)
              case r0_hq21 => exact fun _ _ _ h => h
              case r0_hy21 => exact Or.inr ⟨by rfl, rfl⟩
              try simp only [Act.put, List.setIfInBounds_toArray, List.set_cons_zero, List.set_cons_succ]
              refine wpAnyH_take (i := 22) (oi := ?r0_o22) (v := undef) ?r0_ho22 (by kernel_rfl) (by kernel_rfl) (by kernel_rfl) ?r0_hq22 ?r0_hy22 (by assumption) ?_
              case r0_ho22 => (conv => lhs; whnf; arg 1; whnf)
              case r0_hq22 => exact fun _ _ _ h => h
              case r0_hy22 => exact Or.inr ⟨by rfl, rfl⟩
              try simp only [Act.put, List.setIfInBounds_toArray, List.set_cons_zero, List.set_cons_succ]
              refine wpAnyH_take (i := 23) (oi := ?r0_o23) (v := undef) ?r0_ho23 (by kernel_rfl) (by kernel_rfl) (by kernel_rfl) ?r0_hq23 ?r0_hy23 (by assumption) ?_
              case r0_ho23 => (conv => lhs; whnf; arg 1; whnf)
              case r0_hq23 => exact fun _ _ _ h => h
              case r0_hy23 => exact Or.inr ⟨by rfl, rfl⟩
              try simp only [Act.put, List.setIfInBounds_toArray, List.set_cons_zero, List.set_cons_succ]
              refine wpAnyH_take (i := 24) (oi := ?r0_o24) (v := undef) ?r0_ho24 (by kernel_rfl) (by kernel_rfl) (by kernel_rfl) ?r0_hq24 ?r0_hy24 (by assumption) ?_
              case r0_ho24 => (conv => lhs; whnf; arg 1; whnf)
              case r0_hq24 => exact fun _ _ _ h => h
              case r0_hy24 => exact Or.inr ⟨by rfl, rfl⟩
              try simp only [Act.put, List.setIfInBounds_toArray, List.set_cons_zero, List.set_cons_succ]
              refine wpAnyH_take (i := 25) (oi := ?r0_o25) (v := undef) ?r0_ho25 (by kernel_rfl) (by kernel_rfl) (by kernel_rfl) ?r0_hq25 ?r0_hy25 (by assumption) ?_
              case r0_ho25 => (conv => lhs; whnf; arg 1; whnf)
              case r0_hq25 => exact fun _ _ _ h => h
              case r0_hy25 => exact Or.inr ⟨by rfl, rfl⟩
              try simp only [Act.put, List.setIfInBounds_toArray, List.set_cons_zero, List.set_cons_succ]
              refine wpAnyH_take (i := 26) (oi := ?r0_o26) (v := undef) ?r0_ho26 (by kernel_rfl) (by kernel_rfl) (by kernel_rfl) ?r0_hq26 ?r0_hy26 (by assumption) ?_
              case r0_ho26 => (conv => lhs; whnf; arg 1; whnf)
              case r0_hq26 => exact fun _ _ _ h => h
              case r0_hy26 => exact Or.inr ⟨by rfl, rfl⟩
              try simp only [Act.put, List.setIfInBounds_toArray, List.set_cons_zero, List.set_cons_succ]
              refine wpAnyH_take (i := 27) (oi := ?r0_o27) (v := undef) ?r0_ho27 (by kernel_rfl) (by kernel_rfl) (by kernel_rfl) ?r0_hq27 ?r0_hy27 (by assumption) ?_
              case r0_ho27 => (conv => lhs; whnf; arg 1; whnf)
              case r0_hq27 => exact fun _ _ _ h => h
              case r0_hy27 => exact Or.inr ⟨by rfl, rfl⟩
              try simp only [Act.put, List.setIfInBounds_toArray, List.set_cons_zero, List.set_cons_succ]
              refine wpAnyH_take (i := 28) (oi := ?r0_o28) (v := undef) ?r0_ho28 (by kernel_rfl) (by kernel_rfl) (by kernel_rfl) ?r0_hq28 ?r0_hy28 (by assumption) ?_
              case r0_ho28 => (conv => lhs; whnf; arg 1; whnf)
              case r0_hq28 => exact fun _ _ _ h => h
              case r0_hy28 => exact Or.inr ⟨by rfl, rfl⟩
              try simp only [Act.put, List.setIfInBounds_toArray, List.set_cons_zero, List.set_cons_succ]
              refine wpAnyH_take (i := 29) (oi := ?r0_o29) (v := undef) ?r0_ho29 (by kernel_rfl) (by kernel_rfl) (by kernel_rfl) ?r0_hq29 ?r0_hy29 (by assumption) ?_
              case r0_ho29 => (conv => lhs; whnf; arg 1; whnf)
              case r0_hq29 => exact fun _ _ _ h => h
              case r0_hy29 => exact Or.inr ⟨by rfl, rfl⟩
              try simp only [Act.put, List.setIfInBounds_toArray, List.set_cons_zero, List.set_cons_succ]
              refine wpAnyH_take (i := 30) (oi := ?r0_o30) (v := undef) ?r0_ho30 (by kernel_rfl) (by kernel_rfl) (by kernel_rfl) ?r0_hq30 ?r0_hy30 (by assumption) ?_
              case r0_ho30 => (conv => lhs; whnf; arg 1; whnf)
              case r0_hq30 => exact fun _ _ _ h => h
              case r0_hy30 => exact Or.inr ⟨by rfl, rfl⟩
              try simp only [Act.put, List.setIfInBounds_toArray, List.set_cons_zero, List.set_cons_succ]
              refine wpAnyH_take (i := 31) (oi := ?r0_o31) (v := ?r0_v31) ?r0_ho31 (by kernel_rfl) (by kernel_rfl) (by kernel_rfl) ?r0_hq31 ?r0_hy31 (by assumption) ?_
              case r0_ho31 => (conv => lhs; whnf; arg 1; whnf)
              case r0_hq31 => exact fun _ _ _ h => h
              case r0_hy31 => (refine Or.inl ⟨by rfl, ?_⟩; intro w hSw; (try dsimp only at hSw); first | (go_simp; done) | (go_simp; with_reducible rfl))
              try simp only [Act.put, List.setIfInBounds_toArray, List.set_cons_zero, List.set_cons_succ]
              refine wpAnyH_done (by kernel_rfl) ?_ _
              go_wp2
              go_ret
              exact HNO.out _ HE.out.drew (not_nochain HA0.out (HTR.out.bad (fun x f e hf => absurd (by have := getElem?_lt hf; have := HN.out; omega) HIN.out) HA1.out))
            rw [inB_true.2 hin] at CW
            obtain ⟨x, rfl⟩ : ∃ x : Nat, a = (x : Int) := ⟨a.toNat, by omega⟩
            have hxk : x < k := by omega
            have hwx : (Lit.int .i64 (x : Int)).wf = true := WalkArith.wf_i64 (by omega)
            obtain ⟨b2, o2, f, rfl, hb2, hfx, k0, k1, k2, k3, k4⟩ := (HY.out.ex HE.out).frame (k := x) (by have := HN.out; omega)
            have HFX := Lib.hid hfx
            have HWX := Lib.hid hwx
            clear hin hwx hfx
            by_cases hs3 : (x : Int) ∈ S3
            · have FK : Hid (∀ w', Ex wr w' → ((Instr.lookup 111 (.map (some g)) (.int .i64 (x : Int)) false).run Tryd.prog w' = .ok (.bool true) w')) := Lib.hid (fun w' h => by have := (HIS.out.ex h).look x HWX.out; rwa [decide_eq_true hs3] at this)
              have HS3 := Lib.hid hs3
              clear hs3 k0 k1 k2 k3 k4
              go_wp2_with fail
              refine wp_region_held_drew (S := (fun w' => ((Instr.lookup 111 (.map (some g)) (.int .i64 (x : Int)) false).run Tryd.prog w' = .ok (.bool true) w'))) (by kernel_rfl) ?r1_hS0 (fun hHeld => ?_)
              case r1_hS0 => exact FK.out _ (Ex.refl _).drew
              refine wpAnyH_take (i := 0) (oi := ?r1_o0) (v := ?r1_v0) ?r1_ho0 (by kernel_rfl) (by kernel_rfl) (by kernel_rfl) ?r1_hq0 ?r1_hy0 (by assumption) ?_
              case r1_ho0 => (conv => lhs; whnf; arg 1; whnf)
              case r1_hq0 => exact fun _ _ _ h => h
              case r1_hy0 => (refine Or.inl ⟨by rfl, ?_⟩; intro w hSw; (try dsimp only at hSw); first | (go_simp; done) | (go_simp; with_reducible rfl))
              try simp only [Act.put, List.setIfInBounds_toArray, List.set_cons_zero, List.set_cons_succ]
              refine wpAnyH_take (i := 1) (oi := ?r1_o1) (v := ?r1_v1) ?r1_ho1 (by kernel_rfl) (by kernel_rfl) (by kernel_rfl) ?r1_hq1 ?r1_hy1 (by assumption) ?_
              case r1_ho1 => (conv => lhs; whnf; arg 1; whnf)
              case r1_hq1 => exact fun _ _ _ h => h
              case r1_hy1 => (refine Or.inl ⟨by rfl, ?_⟩; intro w hSw; (try dsimp only at hSw); first | (go_simp; done) | (go_simp; with_reducible rfl))
              try simp only [Act.put, List.setIfInBounds_toArray, List.set_cons_zero, List.set_cons_succ]
              refine wpAnyH_ready (rs := [2]) (by kernel_rfl) (by simp) ?_
              refine AllReadyH.cons (o := ?r1_o2) ?r1_ho2 (fun K hK => ?_) AllReadyH.nil
              case r1_ho2 => (conv => lhs; whnf; arg 1; whnf)
              refine step_call_gu rfl CEW.out _ _ rfl #[.int .i64 x, .int .i64 k] rfl (CW.out _) ?_; rintro r wb ⟨rfl, rfl⟩; refine ⟨_, rfl, ?_⟩
              refine hK.out _ _ ?r1_hS2 (fun hHeld2 => ?_)
              case r1_hS2 => exact FK.out _ (Ex.refl _).drew
              clear hK K hHeld
              try simp only [Act.put, List.setIfInBounds_toArray, List.set_cons_zero, List.set_cons_succ]
              refine wpAnyH_take (i := 3) (oi := ?r1_o3) (v := ?r1_v3) ?r1_ho3 (by kernel_rfl) (by kernel_rfl) (by kernel_rfl) ?r1_hq3 ?r1_hy3 (by assumption) ?_
              case r1_ho3 => (conv => lhs; whnf; arg 1; whnf)
              case r1_hq3 => exact fun _ _ _ h => h
              case r1_hy3 => (refine Or.inl ⟨by rfl, ?_⟩; intro w hSw; (try dsimp only at hSw); first | (go_simp; done) | (go_simp; with_reducible rfl))
              try simp only [Act.put, List.setIfInBounds_toArray, List.set_cons_zero, List.set_cons_succ]
              refine wpAnyH_take (i := 4) (oi := ?r1_o4) (v := ?r1_v4) ?r1_ho4 (by kernel_rfl) (by kernel_rfl) (by kernel_rfl) ?r1_hq4 ?r1_hy4 (by assumption) ?_
              case r1_ho4 => (conv => lhs; whnf; arg 1; whnf)
              case r1_hq4 => exact fun _ _ _ h => h
              case r1_hy4 => (refine Or.inl ⟨by rfl, ?_⟩; intro w hSw; (try dsimp only at hSw); first | (go_simp; done) | (go_simp; with_reducible rfl))
              try simp only [Act.put, List.setIfInBounds_toArray, List.set_cons_zero, List.set_cons_succ]
              refine wpAnyH_take (i := 5) (oi := ?r1_o5) (v := ?r1_v5) ?r1_ho5 (by kernel_rfl) (by kernel_rfl) (by kernel_rfl) ?r1_hq5 ?r1_hy5 (by assumption) ?_
              case r1_ho5 => (conv => lhs; whnf; arg 1; whnf)
              case r1_hq5 => exact fun _ _ _ h => h
              case r1_hy5 => (refine Or.inl ⟨by rfl, ?_⟩; intro w hSw; (try dsimp only at hSw); first | (go_simp; done) | (go_simp; with_reducible rfl))
              try simp only [Act.put, List.setIfInBounds_toArray, List.set_cons_zero, List.set_cons_succ]
              refine wpAnyH_take (i := 6) (oi := ?r1_o6) (v := ?r1_v6) ?r1_ho6 (by kernel_rfl) (by kernel_rfl) (by kernel_rfl) ?r1_hq6 ?r1_hy6 (by assumption) ?_
              case r1_ho6 => (conv => lhs; whnf; arg 1; whnf)
              case r1_hq6 => exact fun _ _ _ h => h
              case r1_hy6 => (refine Or.inl ⟨by rfl, ?_⟩; intro w hSw; (try dsimp only at hSw); first | (go_simp; done) | (go_simp; with_reducible rfl))
              try simp only [Act.put, List.setIfInBounds_toArray, List.set_cons_zero, List.set_cons_succ]
              refine wpAnyH_take (i := 7) (oi := ?r1_o7) (v := ?r1_v7) ?r1_ho7 (by kernel_rfl) (by kernel_rfl) (by kernel_rfl) ?r1_hq7 ?r1_hy7 (by assumption) ?_
              case r1_ho7 => (conv => lhs; whnf; arg 1; whnf)
              case r1_hq7 => exact fun _ _ _ h => h
              case r1_hy7 => (refine Or.inl ⟨by rfl, ?_⟩; intro w hSw; (try dsimp only at hSw); first | (go_simp; done) | (go_simp; with_reducible rfl))
              try simp only [Act.put, List.setIfInBounds_toArray, List.set_cons_zero, List.set_cons_succ]
              refine wpAnyH_take (i := 8) (oi := ?r1_o8) (v := ?r1_v8) ?r1_ho8 (by kernel_rfl) (by kernel_rfl) (by kernel_rfl) ?r1_hq8 ?r1_hy8 (by assumption) ?_
              case r1_ho8 => (conv => lhs; whnf; arg 1; whnf)
              case r1_hq8 => exact fun _ _ _ h => h
              case r1_hy8 => (refine Or.inl ⟨by rfl, ?_⟩; intro w hSw; (try dsimp only at hSw); first | (go_simp; done) | (go_simp; with_reducible rfl))
              try simp only [Act.put, List.setIfInBounds_toArray, List.set_cons_zero, List.set_cons_succ]
              refine wpAnyH_take (i := 9) (oi := ?r1_o9) (v := ?r1_v9) ?r1_ho9 (by kernel_rfl) (by kernel_rfl) (by kernel_rfl) ?r1_hq9 ?r1_hy9 (by assumption) ?_
              case r1_ho9 => (conv => lhs; whnf; arg 1; whnf)
              case r1_hq9 => exact fun _ _ _ h => h
              case r1_hy9 => (refine Or.inl ⟨by rfl, ?_⟩; intro w hSw; (try dsimp only at hSw); first | (go_simp; done) | (go_simp; with_reducible rfl))
              try simp only [Act.put, List.setIfInBounds_toArray, List.set_cons_zero, List.set_cons_succ]
              refine wpAnyH_take (i := 10) (oi := ?r1_o10) (v := undef) ?r1_ho10 (by kernel_rfl) (by kernel_rfl) (by kernel_rfl) ?r1_hq10 ?r1_hy10 (by assumption) ?_
              case r1_ho10 => (conv => lhs; whnf; arg 1; whnf)
              case r1_hq10 => exact fun _ _ _ h => h
              case r1_hy10 => exact Or.inr ⟨by rfl, rfl⟩
              try simp only [Act.put, List.setIfInBounds_toArray, List.set_cons_zero, List.set_cons_succ]
              refine wpAnyH_take (i := 11) (oi := ?r1_o11) (v := undef) ?r1_ho11 (by kernel_rfl) (by kernel_rfl) (by kernel_rfl) ?r1_hq11 ?r1_hy11 (by assumption) ?_
              case r1_ho11 => (conv => lhs; whnf; arg 1; whnf)
              case r1_hq11 => exact fun _ _ _ h => h
              case r1_hy11 => exact Or.inr ⟨by rfl, rfl⟩
              try simp only [Act.put, List.setIfInBounds_toArray, List.set_cons_zero, List.set_cons_succ]
              refine wpAnyH_take (i := 12) (oi := ?r1_o12) (v := undef) ?r1_ho12 (by kernel_rfl) (by kernel_rfl) (by kernel_rfl) ?r1_hq12 ?r1_hy12 (by assumption) ?_
              case r1_ho12 => (conv => lhs; whnf; arg 1; whnf)
              case r1_hq12 => exact fun _ _ _ h => h
              case r1_hy12 => exact Or.inr ⟨by rfl, rfl⟩
              try simp only [Act.put, List.setIfInBounds_toArray, List.set_cons_zero, List.set_cons_succ]
              refine wpAnyH_take (i := 13) (oi := ?r1_o13) (v := undef) ?r1_ho13 (by kernel_rfl) (by kernel_rfl) (by kernel_rfl) ?r1_hq13 ?r1_hy13 (by assumption) ?_
              case r1_ho13 => (conv => lhs; whnf; arg 1; whnf)
              case r1_hq13 => exact fun _ _ _ h => h
              case r1_hy13 => exact Or.inr ⟨by rfl, rfl⟩
              try simp only [Act.put, List.setIfInBounds_toArray, List.set_cons_zero, List.set_cons_succ]
              refine wpAnyH_take (i := 14) (oi := ?r1_o14) (v := undef) ?r1_ho14 (by kernel_rfl) (by kernel_rfl) (by kernel_rfl) ?r1_hq14 ?r1_hy14 (by assumption) ?_
              case r1_ho14 => (conv => lhs; whnf; arg 1; whnf)
              case r1_hq14 => exact fun _ _ _ h => h
              case r1_hy14 => exact Or.inr ⟨by rfl, rfl⟩
              try simp only [Act.put, List.setIfInBounds_toArray, List.set_cons_zero, List.set_cons_succ]
              refine wpAnyH_take (i := 15) (oi := ?r1_o15) (v := undef) ?r1_ho15 (by kernel_rfl) (by kernel_rfl) (by kernel_rfl) ?r1_hq15 ?r1_hy15 (by assumption) ?_
              case r1_ho15 => (conv => lhs; whnf; arg 1; whnf)
              case r1_hq15 => exact fun _ _ _ h => h
              case r1_hy15 => exact Or.inr ⟨by rfl, rfl⟩
              try simp only [Act.put, List.setIfInBounds_toArray, List.set_cons_zero, List.set_cons_succ]
              refine wpAnyH_take (i := 16) (oi := ?r1_o16) (v := undef) ?r1_ho16 (by kernel_rfl) (by kernel_rfl) (by kernel_rfl) ?r1_hq16 ?r1_hy16 (by assumption) ?_
              case r1_ho16 => (conv => lhs; whnf; arg 1; whnf)
              case r1_hq16 => exact fun _ _ _ h => h
              case r1_hy16 => exact Or.inr ⟨by rfl, rfl⟩
              try simp only [Act.put, List.setIfInBounds_toArray, List.set_cons_zero, List.set_cons_succ]
              refine wpAnyH_take (i := 17) (oi := ?r1_o17) (v := ?r1_v17) ?r1_ho17 (by kernel_rfl) (by kernel_rfl) (by kernel_rfl) ?r1_hq17 ?r1_hy17 (by assumption) ?_
              case r1_ho17 => (conv => lhs; whnf; arg 1; whnf)
              case r1_hq17 => exact fun _ _ _ h => h
              case r1_hy17 => (refine Or.inl ⟨by rfl, ?_⟩; intro w hSw; (try dsimp only at hSw); first | (go_simp; done) | (go_simp; with_reducible rfl))
              try simp only [Act.put, List.setIfInBounds_toArray, List.set_cons_zero, List.set_cons_succ]
              refine wpAnyH_take (i := 18) (oi := ?r1_o18) (v := ?r1_v18) ?r1_ho18 (by kernel_rfl) (by kernel_rfl) (by kernel_rfl) ?r1_hq18 ?r1_hy18 (by assumption) ?_
              case r1_ho18 => (conv => lhs; whnf; arg 1; whnf)
              case r1_hq18 => exact fun _ _ _ h => h
              case r1_hy18 => (refine Or.inl ⟨by rfl, ?_⟩; intro w hSw; (try dsimp only at hSw); first | (go_simp; done) | (go_simp; with_reducible rfl))
              try simp only [Act.put, List.setIfInBounds_toArray, List.set_cons_zero, List.set_cons_succ]
              refine wpAnyH_take (i := 19) (oi := ?r1_o19) (v := undef) ?r1_ho19 (by kernel_rfl) (by kernel_rfl) (by kernel_rfl) ?r1_hq19 ?r1_hy19 (by assumption) ?_
              case r1_ho19 => (conv => lhs; whnf; arg 1; whnf)
              case r1_hq19 => exact fun _ _ _ h => h
              case r1_hy19 => exact Or.inr ⟨by rfl, rfl⟩
              try simp only [Act.put, List.setIfInBounds_toArray, List.set_cons_zero, List.set_cons_succ]
              refine wpAnyH_take (i := 20) (oi := ?r1_o20) (v := undef) ?r1_ho20 (by kernel_rfl) (by kernel_rfl) (by kernel_rfl) ?r1_hq20 ?r1_hy20 (by assumption) ?_
              case r1_ho20 => (conv => lhs; whnf; arg 1; whnf)
              case r1_hq20 => exact fun _ _ _ h => h
              case r1_hy20 => exact Or.inr ⟨by rfl, rfl⟩
              try simp only [Act.put, List.setIfInBounds_toArray, List.set_cons_zero, List.set_cons_succ]
              refine wpAnyH_take (i := 21) (oi := ?r1_o21) (v := undef) ?r1_ho21 (by kernel_rfl) (by kernel_rfl) (by kernel_rfl) ?r1_hq21 ?r1_hy21 (by assumption) ?_
              case r1_ho21 => (conv => lhs; whnf; arg 1; whnf)
              case r1_hq21 => exact fun _ _ _ h => h
              case r1_hy21 => exact Or.inr ⟨by rfl, rfl⟩
              try simp only [Act.put, List.setIfInBounds_toArray, List.set_cons_zero, List.set_cons_succ]
              refine wpAnyH_take (i := 22) (oi := ?r1_o22) (v := undef) ?r1_ho22 (by kernel_rfl) (by kernel_rfl) (by kernel_rfl) ?r1_hq22 ?r1_hy22 (by assumption) ?_
              case r1_ho22 => (conv => lhs; whnf; arg 1; whnf)
              case r1_hq22 => exact fun _ _ _ h => h
              case r1_hy22 => exact Or.inr ⟨by rfl, rfl⟩
              try simp only [Act.put, List.setIfInBounds_toArray, List.set_cons_zero, List.set_cons_succ]
              refine wpAnyH_take (i := 23) (oi := ?r1_o23) (v := undef) ?r1_ho23 (by kernel_rfl) (by kernel_rfl) (by kernel_rfl) ?r1_hq23 ?r1_hy23 (by assumption) ?_
              case r1_ho23 => (conv => lhs; whnf; arg 1; whnf)
              case r1_hq23 => exact fun _ _ _ h => h
              case r1_hy23 => exact Or.inr ⟨by rfl, rfl⟩
              try simp only [Act.put, List.setIfInBounds_toArray, List.set_cons_zero, List.set_cons_succ]
              refine wpAnyH_take (i := 24) (oi := ?r1_o24) (v := undef) ?r1_ho24 (by kernel_rfl) (by kernel_rfl) (by kernel_rfl) ?r1_hq24 ?r1_hy24 (by assumption) ?_
              case r1_ho24 => (conv => lhs; whnf; arg 1; whnf)
              case r1_hq24 => exact fun _ _ _ h => h
              case r1_hy24 => exact Or.inr ⟨by rfl, rfl⟩
              try simp only [Act.put, List.setIfInBounds_toArray, List.set_cons_zero, List.set_cons_succ]
              refine wpAnyH_take (i := 25) (oi := ?r1_o25) (v := undef) ?r1_ho25 (by kernel_rfl) (by kernel_rfl) (by kernel_rfl) ?r1_hq25 ?r1_hy25 (by assumption) ?_
              case r1_ho25 => (conv => lhs; whnf; arg 1; whnf)
              case r1_hq25 => exact fun _ _ _ h => h
              case r1_hy25 => exact Or.inr ⟨by rfl, rfl⟩
              try simp only [Act.put, List.setIfInBounds_toArray, List.set_cons_zero, List.set_cons_succ]
              refine wpAnyH_take (i := 26) (oi := ?r1_o26) (v := undef) ?r1_ho26 (by kernel_rfl) (by kernel_rfl) (by kernel_rfl) ?r1_hq26 ?r1_hy26 (by assumption) ?_
              case r1_ho26 => (conv => lhs; whnf; arg 1; whnf)
              case r1_hq26 => exact fun _ _ _ h => h
              case r1_hy26 => exact Or.inr ⟨by rfl, rfl⟩
              try simp only [Act.put, List.setIfInBounds_toArray, List.set_cons_zero, List.set_cons_succ]
              refine wpAnyH_take (i := 27) (oi := ?r1_o27) (v := undef) ?r1_ho27 (by kernel_rfl) (by kernel_rfl) (by kernel_rfl) ?r1_hq27 ?r1_hy27 (by assumption) ?_
              case r1_ho27 => (conv => lhs; whnf; arg 1; whnf)
              case r1_hq27 => exact fun _ _ _ h => h
              case r1_hy27 => exact Or.inr ⟨by rfl, rfl⟩
              try simp only [Act.put, List.setIfInBounds_toArray, List.set_cons_zero, List.set_cons_succ]
              refine wpAnyH_take (i := 28) (oi := ?r1_o28) (v := undef) ?r1_ho28 (by kernel_rfl) (by kernel_rfl) (by kernel_rfl) ?r1_hq28 ?r1_hy28 (by assumption) ?_
              case r1_ho28 => (conv => lhs; whnf; arg 1; whnf)
              case r1_hq28 => exact fun _ _ _ h => h
              case r1_hy28 => exact Or.inr ⟨by rfl, rfl⟩
              try simp only [Act.put, List.setIfInBounds_toArray, List.set_cons_zero, List.set_cons_succ]
              refine wpAnyH_take (i := 29) (oi := ?r1_o29) (v := undef) ?r1_ho29 (by kernel_rfl) (by kernel_rfl) (by kernel_rfl) ?r1_hq29 ?r1_hy29 (by assumption) ?_
              case r1_ho29 => (conv => lhs; whnf; arg 1; whnf)
              case r1_hq29 => exact fun _ _ _ h => h
              case r1_hy29 => exact Or.inr ⟨by rfl, rfl⟩
              try simp only [Act.put, List.setIfInBounds_toArray, List.set_cons_zero, List.set_cons_succ]
              refine wpAnyH_take (i := 30) (oi := ?r1_o30) (v := undef) ?r1_ho30 (by kernel_rfl) (by kernel_rfl) (by kernel_rfl) ?r1_hq30 ?r1_hy30 (by assumption) ?_
              case r1_ho30 => (conv => lhs; whnf; arg 1; whnf)
              case r1_hq30 => exact fun _ _ _ h => h
              case r1_hy30 => exact Or.inr ⟨by rfl, rfl⟩
              try simp only [Act.put, List.setIfInBounds_toArray, List.set_cons_zero, List.set_cons_succ]
              refine wpAnyH_take (i := 31) (oi := ?r1_o31) (v := ?r1_v31) ?r1_ho31 (by kernel_rfl) (by kernel_rfl) (by kernel_rfl) ?r1_hq31 ?r1_hy31 (by assumption) ?_
              case r1_ho31 => (conv => lhs; whnf; arg 1; whnf)
              case r1_hq31 => exact fun _ _ _ h => h
              case r1_hy31 => (refine Or.inl ⟨by rfl, ?_⟩; intro w hSw; (try dsimp only at hSw); first | (go_simp; done) | (go_simp; with_reducible rfl))
              try simp only [Act.put, List.setIfInBounds_toArray, List.set_cons_zero, List.set_cons_succ]
              refine wpAnyH_done (by kernel_rfl) ?_ _
              go_wp2
              go_ret
              exact HNO.out _ HE.out.drew (met_again HMU.out HBU.out HB5.out HA0.out HTR.out HFX.out HS3.out)
            cases hu : f.used
            · rw [hu] at k0
              have FK : Hid (∀ w', Ex wr w' → ((Instr.lookup 111 (.map (some g)) (.int .i64 (x : Int)) false).run Tryd.prog w' = .ok (.bool false) w' ∧ w'.cell? ⟨w.heap.size, 0, none⟩ = some (.slice (some ⟨b5, o5, none⟩) m c) ∧ w'.cell? ⟨w.heap.size, 1, none⟩ = some (.slice (some ⟨b2, o2, none⟩) k d) ∧ w'.cell? ⟨b2, o2 + x * 5, none⟩ = some (.bool false) ∧ w'.cell? ⟨b2, o2 + x * 5 + 1, none⟩ = some (.int .i64 f.key.space) ∧ w'.cell? ⟨b2, o2 + x * 5 + 2, none⟩ = some (.int .i64 f.key.page))) := Lib.hid (fun w' h => ⟨by have := (HIS.out.ex h).look x HWX.out; rwa [decide_eq_false hs3] at this, (KX.out.ex h).c2.1, (KX.out.ex h).c2.2, (h.cell hb2).trans k0, (h.cell hb2).trans k1, (h.cell hb2).trans k2⟩)
              have HU := Lib.hid hu
              have jX := KX.out.lt
              clear hs3 hu k0 k1 k2 k3 k4
              go_wp2_with fail
              refine wp_region_held_drew (S := (fun w' => ((Instr.lookup 111 (.map (some g)) (.int .i64 (x : Int)) false).run Tryd.prog w' = .ok (.bool false) w' ∧ w'.cell? ⟨w.heap.size, 0, none⟩ = some (.slice (some ⟨b5, o5, none⟩) m c) ∧ w'.cell? ⟨w.heap.size, 1, none⟩ = some (.slice (some ⟨b2, o2, none⟩) k d) ∧ w'.cell? ⟨b2, o2 + x * 5, none⟩ = some (.bool false) ∧ w'.cell? ⟨b2, o2 + x * 5 + 1, none⟩ = some (.int .i64 f.key.space) ∧ w'.cell? ⟨b2, o2 + x * 5 + 2, none⟩ = some (.int .i64 f.key.page)))) (by kernel_rfl) ?r2_hS0 (fun hHeld => ?_)
              case r2_hS0 => exact FK.out _ (Ex.refl _).drew
              refine wpAnyH_take (i := 0) (oi := ?r2_o0) (v := ?r2_v0) ?r2_ho0 (by kernel_rfl) (by kernel_rfl) (by kernel_rfl) ?r2_hq0 ?r2_hy0 (by assumption) ?_
              case r2_ho0 => (conv => lhs; whnf; arg 1; whnf)
              case r2_hq0 => exact fun _ _ _ h => h
              case r2_hy0 => (refine Or.inl ⟨by rfl, ?_⟩; intro w hSw; (try dsimp only at hSw); first | (go_simp; done) | (go_simp; with_reducible rfl))
              try simp only [Act.put, List.setIfInBounds_toArray, List.set_cons_zero, List.set_cons_succ]
              refine wpAnyH_take (i := 1) (oi := ?r2_o1) (v := ?r2_v1) ?r2_ho1 (by kernel_rfl) (by kernel_rfl) (by kernel_rfl) ?r2_hq1 ?r2_hy1 (by assumption) ?_
              case r2_ho1 => (conv => lhs; whnf; arg 1; whnf)
              case r2_hq1 => exact fun _ _ _ h => h
              case r2_hy1 => (refine Or.inl ⟨by rfl, ?_⟩; intro w hSw; (try dsimp only at hSw); first | (go_simp; done) | (go_simp; with_reducible rfl))
              try simp only [Act.put, List.setIfInBounds_toArray, List.set_cons_zero, List.set_cons_succ]
              refine wpAnyH_ready (rs := [2]) (by kernel_rfl) (by simp) ?_
              refine AllReadyH.cons (o := ?r2_o2) ?r2_ho2 (fun K hK => ?_) AllReadyH.nil
              case r2_ho2 => (conv => lhs; whnf; arg 1; whnf)
              refine step_call_gu rfl CEW.out _ _ rfl #[.int .i64 x, .int .i64 k] rfl (CW.out _) ?_; rintro r wb ⟨rfl, rfl⟩; refine ⟨_, rfl, ?_⟩
              refine hK.out _ _ ?r2_hS2 (fun hHeld2 => ?_)
              case r2_hS2 => exact FK.out _ (Ex.refl _).drew
              clear hK K hHeld
              try simp only [Act.put, List.setIfInBounds_toArray, List.set_cons_zero, List.set_cons_succ]
              refine wpAnyH_take (i := 3) (oi := ?r2_o3) (v := ?r2_v3) ?r2_ho3 (by kernel_rfl) (by kernel_rfl) (by kernel_rfl) ?r2_hq3 ?r2_hy3 (by assumption) ?_
              case r2_ho3 => (conv => lhs; whnf; arg 1; whnf)
              case r2_hq3 => exact fun _ _ _ h => h
              case r2_hy3 => (refine Or.inl ⟨by rfl, ?_⟩; intro w hSw; (try dsimp only at hSw); first | (go_simp; done) | (go_simp; with_reducible rfl))
              try simp only [Act.put, List.setIfInBounds_toArray, List.set_cons_zero, List.set_cons_succ]
              refine wpAnyH_take (i := 4) (oi := ?r2_o4) (v := ?r2_v4) ?r2_ho4 (by kernel_rfl) (by kernel_rfl) (by kernel_rfl) ?r2_hq4 ?r2_hy4 (by assumption) ?_
              case r2_ho4 => (conv => lhs; whnf; arg 1; whnf)
              case r2_hq4 => exact fun _ _ _ h => h
              case r2_hy4 => (refine Or.inl ⟨by rfl, ?_⟩; intro w hSw; (try dsimp only at hSw); first | (go_simp; done) | (go_simp; with_reducible rfl))
              try simp only [Act.put, List.setIfInBounds_toArray, List.set_cons_zero, List.set_cons_succ]
              refine wpAnyH_take (i := 5) (oi := ?r2_o5) (v := ?r2_v5) ?r2_ho5 (by kernel_rfl) (by kernel_rfl) (by kernel_rfl) ?r2_hq5 ?r2_hy5 (by assumption) ?_
              case r2_ho5 => (conv => lhs; whnf; arg 1; whnf)
              case r2_hq5 => exact fun _ _ _ h => h
              case r2_hy5 => (refine Or.inl ⟨by rfl, ?_⟩; intro w hSw; (try dsimp only at hSw); first | (go_simp; done) | (go_simp; with_reducible rfl))
              try simp only [Act.put, List.setIfInBounds_toArray, List.set_cons_zero, List.set_cons_succ]
              refine wpAnyH_take (i := 6) (oi := ?r2_o6) (v := ?r2_v6) ?r2_ho6 (by kernel_rfl) (by kernel_rfl) (by kernel_rfl) ?r2_hq6 ?r2_hy6 (by assumption) ?_
              case r2_ho6 => (conv => lhs; whnf; arg 1; whnf)
              case r2_hq6 => exact fun _ _ _ h => h
              case r2_hy6 => (refine Or.inl ⟨by rfl, ?_⟩; intro w hSw; (try dsimp only at hSw); first | (go_simp; done) | (go_simp; with_reducible rfl))
              try simp only [Act.put, List.setIfInBounds_toArray, List.set_cons_zero, List.set_cons_succ]
              refine wpAnyH_take (i := 7) (oi := ?r2_o7) (v := ?r2_v7) ?r2_ho7 (by kernel_rfl) (by kernel_rfl) (by kernel_rfl) ?r2_hq7 ?r2_hy7 (by assumption) ?_
              case r2_ho7 => (conv => lhs; whnf; arg 1; whnf)
              case r2_hq7 => exact fun _ _ _ h => h
              case r2_hy7 => (refine Or.inl ⟨by rfl, ?_⟩; intro w hSw; (try dsimp only at hSw); first | (go_simp; done) | (go_simp; with_reducible rfl))
              try simp only [Act.put, List.setIfInBounds_toArray, List.set_cons_zero, List.set_cons_succ]
              refine wpAnyH_take (i := 8) (oi := ?r2_o8) (v := ?r2_v8) ?r2_ho8 (by kernel_rfl) (by kernel_rfl) (by kernel_rfl) ?r2_hq8 ?r2_hy8 (by assumption) ?_
              case r2_ho8 => (conv => lhs; whnf; arg 1; whnf)
              case r2_hq8 => exact fun _ _ _ h => h
              case r2_hy8 => (refine Or.inl ⟨by rfl, ?_⟩; intro w hSw; (try dsimp only at hSw); first | (go_simp; done) | (go_simp; with_reducible rfl))
              try simp only [Act.put, List.setIfInBounds_toArray, List.set_cons_zero, List.set_cons_succ]
              refine wpAnyH_take (i := 9) (oi := ?r2_o9) (v := ?r2_v9) ?r2_ho9 (by kernel_rfl) (by kernel_rfl) (by kernel_rfl) ?r2_hq9 ?r2_hy9 (by assumption) ?_
              case r2_ho9 => (conv => lhs; whnf; arg 1; whnf)
              case r2_hq9 => exact fun _ _ _ h => h
              case r2_hy9 => (refine Or.inl ⟨by rfl, ?_⟩; intro w hSw; (try dsimp only at hSw); first | (go_simp; done) | (go_simp; with_reducible rfl))
              try simp only [Act.put, List.setIfInBounds_toArray, List.set_cons_zero, List.set_cons_succ]
              refine wpAnyH_take (i := 10) (oi := ?r2_o10) (v := ?r2_v10) ?r2_ho10 (by kernel_rfl) (by kernel_rfl) (by kernel_rfl) ?r2_hq10 ?r2_hy10 (by assumption) ?_
              case r2_ho10 => (conv => lhs; whnf; arg 1; whnf)
              case r2_hq10 => exact fun _ _ _ h => h
              case r2_hy10 => (refine Or.inl ⟨by rfl, ?_⟩; intro w hSw; (try dsimp only at hSw); first | (go_simp; done) | (go_simp; with_reducible rfl))
              try simp only [Act.put, List.setIfInBounds_toArray, List.set_cons_zero, List.set_cons_succ]
              refine wpAnyH_take (i := 11) (oi := ?r2_o11) (v := ?r2_v11) ?r2_ho11 (by kernel_rfl) (by kernel_rfl) (by kernel_rfl) ?r2_hq11 ?r2_hy11 (by assumption) ?_
              case r2_ho11 => (conv => lhs; whnf; arg 1; whnf)
              case r2_hq11 => exact fun _ _ _ h => h
              case r2_hy11 => (refine Or.inl ⟨by rfl, ?_⟩; intro w hSw; (try dsimp only at hSw); first | (go_simp; done) | (go_simp; with_reducible rfl))
              try simp only [Act.put, List.setIfInBounds_toArray, List.set_cons_zero, List.set_cons_succ]
              refine wpAnyH_take (i := 12) (oi := ?r2_o12) (v := ?r2_v12) ?r2_ho12 (by kernel_rfl) (by kernel_rfl) (by kernel_rfl) ?r2_hq12 ?r2_hy12 (by assumption) ?_
              case r2_ho12 => (conv => lhs; whnf; arg 1; whnf)
              case r2_hq12 => exact fun _ _ _ h => h
              case r2_hy12 => (refine Or.inl ⟨by rfl, ?_⟩; intro w hSw; (try dsimp only at hSw); first | (go_simp; done) | (go_simp; with_reducible rfl))
              try simp only [Act.put, List.setIfInBounds_toArray, List.set_cons_zero, List.set_cons_succ]
              refine wpAnyH_take (i := 13) (oi := ?r2_o13) (v := ?r2_v13) ?r2_ho13 (by kernel_rfl) (by kernel_rfl) (by kernel_rfl) ?r2_hq13 ?r2_hy13 (by assumption) ?_
              case r2_ho13 => (conv => lhs; whnf; arg 1; whnf)
              case r2_hq13 => exact fun _ _ _ h => h
              case r2_hy13 => (refine Or.inl ⟨by rfl, ?_⟩; intro w hSw; (try dsimp only at hSw); first | (go_simp; done) | (go_simp; with_reducible rfl))
              try simp only [Act.put, List.setIfInBounds_toArray, List.set_cons_zero, List.set_cons_succ]
              refine wpAnyH_take (i := 14) (oi := ?r2_o14) (v := ?r2_v14) ?r2_ho14 (by kernel_rfl) (by kernel_rfl) (by kernel_rfl) ?r2_hq14 ?r2_hy14 (by assumption) ?_
              case r2_ho14 => (conv => lhs; whnf; arg 1; whnf)
              case r2_hq14 => exact fun _ _ _ h => h
              case r2_hy14 => (refine Or.inl ⟨by rfl, ?_⟩; intro w hSw; (try dsimp only at hSw); first | (go_simp; done) | (go_simp; with_reducible rfl))
              try simp only [Act.put, List.setIfInBounds_toArray, List.set_cons_zero, List.set_cons_succ]
              refine wpAnyH_take (i := 15) (oi := ?r2_o15) (v := ?r2_v15) ?r2_ho15 (by kernel_rfl) (by kernel_rfl) (by kernel_rfl) ?r2_hq15 ?r2_hy15 (by assumption) ?_
              case r2_ho15 => (conv => lhs; whnf; arg 1; whnf)
              case r2_hq15 => exact fun _ _ _ h => h
              case r2_hy15 => (refine Or.inl ⟨by rfl, ?_⟩; intro w hSw; (try dsimp only at hSw); first | (go_simp; done) | (go_simp; with_reducible rfl))
              try simp only [Act.put, List.setIfInBounds_toArray, List.set_cons_zero, List.set_cons_succ]
              refine wpAnyH_take (i := 16) (oi := ?r2_o16) (v := ?r2_v16) ?r2_ho16 (by kernel_rfl) (by kernel_rfl) (by kernel_rfl) ?r2_hq16 ?r2_hy16 (by assumption) ?_
              case r2_ho16 => (conv => lhs; whnf; arg 1; whnf)
              case r2_hq16 => exact fun _ _ _ h => h
              case r2_hy16 => (refine Or.inl ⟨by rfl, ?_⟩; intro w hSw; (try dsimp only at hSw); first | (go_simp; done) | (go_simp; with_reducible rfl))
              try simp only [Act.put, List.setIfInBounds_toArray, List.set_cons_zero, List.set_cons_succ]
              refine wpAnyH_take (i := 17) (oi := ?r2_o17) (v := ?r2_v17) ?r2_ho17 (by kernel_rfl) (by kernel_rfl) (by kernel_rfl) ?r2_hq17 ?r2_hy17 (by assumption) ?_
              case r2_ho17 => (conv => lhs; whnf; arg 1; whnf)
              case r2_hq17 => exact fun _ _ _ h => h
              case r2_hy17 => (refine Or.inl ⟨by rfl, ?_⟩; intro w hSw; (try dsimp only at hSw); first | (go_simp; done) | (go_simp; with_reducible rfl))
              try simp only [Act.put, List.setIfInBounds_toArray, List.set_cons_zero, List.set_cons_succ]
              refine wpAnyH_take (i := 18) (oi := ?r2_o18) (v := ?r2_v18) ?r2_ho18 (by kernel_rfl) (by kernel_rfl) (by kernel_rfl) ?r2_hq18 ?r2_hy18 (by assumption) ?_
              case r2_ho18 => (conv => lhs; whnf; arg 1; whnf)
              case r2_hq18 => exact fun _ _ _ h => h
              case r2_hy18 => (refine Or.inl ⟨by rfl, ?_⟩; intro w hSw; (try dsimp only at hSw); first | (go_simp; done) | (go_simp; with_reducible rfl))
              try simp only [Act.put, List.setIfInBounds_toArray, List.set_cons_zero, List.set_cons_succ]
              refine wpAnyH_take (i := 19) (oi := ?r2_o19) (v := undef) ?r2_ho19 (by kernel_rfl) (by kernel_rfl) (by kernel_rfl) ?r2_hq19 ?r2_hy19 (by assumption) ?_
              case r2_ho19 => (conv => lhs; whnf; arg 1; whnf)
              case r2_hq19 => exact fun _ _ _ h => h
              case r2_hy19 => exact Or.inr ⟨by rfl, rfl⟩
              try simp only [Act.put, List.setIfInBounds_toArray, List.set_cons_zero, List.set_cons_succ]
              refine wpAnyH_take (i := 20) (oi := ?r2_o20) (v := undef) ?r2_ho20 (by kernel_rfl) (by kernel_rfl) (by kernel_rfl) ?r2_hq20 ?r2_hy20 (by assumption) ?_
              case r2_ho20 => (conv => lhs; whnf; arg 1; whnf)
              case r2_hq20 => exact fun _ _ _ h => h
              case r2_hy20 => exact Or.inr ⟨by rfl, rfl⟩
              try simp only [Act.put, List.setIfInBounds_toArray, List.set_cons_zero, List.set_cons_succ]
              refine wpAnyH_take (i := 21) (oi := ?r2_o21) (v := undef) ?r2_ho21 (by kernel_rfl) (by kernel_rfl) (by kernel_rfl) ?r2_hq21 ?r2_hy21 (by assumption) ?_
              case r2_ho21 => (conv => lhs; whnf; arg 1; whnf)
              case r2_hq21 => exact fun _ _ _ h => h
              case r2_hy21 => exact Or.inr ⟨by rfl, rfl⟩
              try simp only [Act.put, List.setIfInBounds_toArray, List.set_cons_zero, List.set_cons_succ]
              refine wpAnyH_take (i := 22) (oi := ?r2_o22) (v := undef) ?r2_ho22 (by kernel_rfl) (by kernel_rfl) (by kernel_rfl) ?r2_hq22 ?r2_hy22 (by assumption) ?_
              case r2_ho22 => (conv => lhs; whnf; arg 1; whnf)
              case r2_hq22 => exact fun _ _ _ h => h
              case r2_hy22 => exact Or.inr ⟨by rfl, rfl⟩
              try simp only [Act.put, List.setIfInBounds_toArray, List.set_cons_zero, List.set_cons_succ]
              refine wpAnyH_take (i := 23) (oi := ?r2_o23) (v := undef) ?r2_ho23 (by kernel_rfl) (by kernel_rfl) (by kernel_rfl) ?r2_hq23 ?r2_hy23 (by assumption) ?_
              case r2_ho23 => (conv => lhs; whnf; arg 1; whnf)
              case r2_hq23 => exact fun _ _ _ h => h
              case r2_hy23 => exact Or.inr ⟨by rfl, rfl⟩
              try simp only [Act.put, List.setIfInBounds_toArray, List.set_cons_zero, List.set_cons_succ]
              refine wpAnyH_take (i := 24) (oi := ?r2_o24) (v := undef) ?r2_ho24 (by kernel_rfl) (by kernel_rfl) (by kernel_rfl) ?r2_hq24 ?r2_hy24 (by assumption) ?_
              case r2_ho24 => (conv => lhs; whnf; arg 1; whnf)
              case r2_hq24 => exact fun _ _ _ h => h
              case r2_hy24 => exact Or.inr ⟨by rfl, rfl⟩
              try simp only [Act.put, List.setIfInBounds_toArray, List.set_cons_zero, List.set_cons_succ]
              refine wpAnyH_take (i := 25) (oi := ?r2_o25) (v := undef) ?r2_ho25 (by kernel_rfl) (by kernel_rfl) (by kernel_rfl) ?r2_hq25 ?r2_hy25 (by assumption) ?_
              case r2_ho25 => (conv => lhs; whnf; arg 1; whnf)
              case r2_hq25 => exact fun _ _ _ h => h
              case r2_hy25 => exact Or.inr ⟨by rfl, rfl⟩
              try simp only [Act.put, List.setIfInBounds_toArray, List.set_cons_zero, List.set_cons_succ]
              refine wpAnyH_take (i := 26) (oi := ?r2_o26) (v := undef) ?r2_ho26 (by kernel_rfl) (by kernel_rfl) (by kernel_rfl) ?r2_hq26 ?r2_hy26 (by assumption) ?_
              case r2_ho26 => (conv => lhs; whnf; arg 1; whnf)
              case r2_hq26 => exact fun _ _ _ h => h
              case r2_hy26 => exact Or.inr ⟨by rfl, rfl⟩
              try simp only [Act.put, List.setIfInBounds_toArray, List.set_cons_zero, List.set_cons_succ]
              refine wpAnyH_take (i := 27) (oi := ?r2_o27) (v := undef) ?r2_ho27 (by kernel_rfl) (by kernel_rfl) (by kernel_rfl) ?r2_hq27 ?r2_hy27 (by assumption) ?_
              case r2_ho27 => (conv => lhs; whnf; arg 1; whnf)
              case r2_hq27 => exact fun _ _ _ h => h
              case r2_hy27 => exact Or.inr ⟨by rfl, rfl⟩
              try simp only [Act.put, List.setIfInBounds_toArray, List.set_cons_zero, List.set_cons_succ]
              refine wpAnyH_take (i := 28) (oi := ?r2_o28) (v := undef) ?r2_ho28 (by kernel_rfl) (by kernel_rfl) (by kernel_rfl) ?r2_hq28 ?r2_hy28 (by assumption) ?_
              case r2_ho28 => (conv => lhs; whnf; arg 1; whnf)
              case r2_hq28 => exact fun _ _ _ h => h
              case r2_hy28 => exact Or.inr ⟨by rfl, rfl⟩
              try simp only [Act.put, List.setIfInBounds_toArray, List.set_cons_zero, List.set_cons_succ]
              refine wpAnyH_take (i := 29) (oi := ?r2_o29) (v := undef) ?r2_ho29 (by kernel_rfl) (by kernel_rfl) (by kernel_rfl) ?r2_hq29 ?r2_hy29 (by assumption) ?_
              case r2_ho29 => (conv => lhs; whnf; arg 1; whnf)
              case r2_hq29 => exact fun _ _ _ h => h
              case r2_hy29 => exact Or.inr ⟨by rfl, rfl⟩
              try simp only [Act.put, List.setIfInBounds_toArray, List.set_cons_zero, List.set_cons_succ]
              refine wpAnyH_take (i := 30) (oi := ?r2_o30) (v := undef) ?r2_ho30 (by kernel_rfl) (by kernel_rfl) (by kernel_rfl) ?r2_hq30 ?r2_hy30 (by assumption) ?_
              case r2_ho30 => (conv => lhs; whnf; arg 1; whnf)
              case r2_hq30 => exact fun _ _ _ h => h
              case r2_hy30 => exact Or.inr ⟨by rfl, rfl⟩
              try simp only [Act.put, List.setIfInBounds_toArray, List.set_cons_zero, List.set_cons_succ]
              refine wpAnyH_take (i := 31) (oi := ?r2_o31) (v := ?r2_v31) ?r2_ho31 (by kernel_rfl) (by kernel_rfl) (by kernel_rfl) ?r2_hq31 ?r2_hy31 (by assumption) ?_
              case r2_ho31 => (conv => lhs; whnf; arg 1; whnf)
              case r2_hq31 => exact fun _ _ _ h => h
              case r2_hy31 => (refine Or.inl ⟨by rfl, ?_⟩; intro w hSw; (try dsimp only at hSw); first | (go_simp; done) | (go_simp; with_reducible rfl))
              try simp only [Act.put, List.setIfInBounds_toArray, List.set_cons_zero, List.set_cons_succ]
              refine wpAnyH_done (by kernel_rfl) ?_ _
              go_wp2
              go_ret
              exact HNO.out _ HE.out.drew (not_nochain HA0.out (HTR.out.bad (fun i f' e hf => by
                have e2 : i = x := by omega
                subst e2
                rw [HFX.out] at hf
                injection hf with hf
                rw [← hf]
                exact HU.out) (by omega)))
            rw [hu] at k0
            have HU := Lib.hid hu
            have hkok : keyOk f.key := ((HU3.out x f (getElem?_lt HFX.out) HFX.out).1.2 hu).1
            have FK : Hid (∀ w', Ex wr w' → ((Instr.lookup 111 (.map (some g)) (.int .i64 (x : Int)) false).run Tryd.prog w' = .ok (.bool false) w' ∧ w'.cell? ⟨w.heap.size, 0, none⟩ = some (.slice (some ⟨b5, o5, none⟩) m c) ∧ w'.cell? ⟨w.heap.size, 1, none⟩ = some (.slice (some ⟨b2, o2, none⟩) k d) ∧ w'.cell? ⟨b2, o2 + x * 5, none⟩ = some (.bool true) ∧ w'.cell? ⟨b2, o2 + x * 5 + 1, none⟩ = some (.int .i64 f.key.space) ∧ w'.cell? ⟨b2, o2 + x * 5 + 2, none⟩ = some (.int .i64 f.key.page))) := Lib.hid (fun w' h => ⟨by have := (HIS.out.ex h).look x HWX.out; rwa [decide_eq_false hs3] at this, (KX.out.ex h).c2.1, (KX.out.ex h).c2.2, (h.cell hb2).trans k0, (h.cell hb2).trans k1, (h.cell hb2).trans k2⟩)
            have CH := Lib.hid (fun w => hashI_c f.key (m : Int) w hkok (by omega) (by omega))
            have HHV : Hid (hashK f.key (m : Int) = hashK f.key t.buckets.length) := Lib.hid (by rw [← HM.out])
            generalize hashK f.key (m : Int) = hv at CH HHV
            have HS3 := Lib.hid hs3
            have HB2 := Lib.hid hb2
            have K4 := Lib.hid k4
            have jX := KX.out.lt
            clear hs3 hu k0 k1 k2 k3 k4 hkok
            by_cases ehv : hv = (b : Int)
            · subst ehv
              go_wp2_with fail
              refine wp_region_held_drew (S := (fun w' => ((Instr.lookup 111 (.map (some g)) (.int .i64 (x : Int)) false).run Tryd.prog w' = .ok (.bool false) w' ∧ w'.cell? ⟨w.heap.size, 0, none⟩ = some (.slice (some ⟨b5, o5, none⟩) m c) ∧ w'.cell? ⟨w.heap.size, 1, none⟩ = some (.slice (some ⟨b2, o2, none⟩) k d) ∧ w'.cell? ⟨b2, o2 + x * 5, none⟩ = some (.bool true) ∧ w'.cell? ⟨b2, o2 + x * 5 + 1, none⟩ = some (.int .i64 f.key.space) ∧ w'.cell? ⟨b2, o2 + x * 5 + 2, none⟩ = some (.int .i64 f.key.page)))) (by kernel_rfl) ?r3_hS0 (fun hHeld => ?_)
              case r3_hS0 => exact FK.out _ (Ex.refl _).drew
              refine wpAnyH_take (i := 0) (oi := ?r3_o0) (v := ?r3_v0) ?r3_ho0 (by kernel_rfl) (by kernel_rfl) (by kernel_rfl) ?r3_hq0 ?r3_hy0 (by assumption) ?_
              case r3_ho0 => (conv => lhs; whnf; arg 1; whnf)
              case r3_hq0 => exact fun _ _ _ h => h
              case r3_hy0 => (refine Or.inl ⟨by rfl, ?_⟩; intro w hSw; (try dsimp only at hSw); first | (go_simp; done) | (go_simp; with_reducible rfl))
              try simp only [Act.put, List.setIfInBounds_toArray, List.set_cons_zero, List.set_cons_succ]
              refine wpAnyH_take (i := 1) (oi := ?r3_o1) (v := ?r3_v1) ?r3_ho1 (by kernel_rfl) (by kernel_rfl) (by kernel_rfl) ?r3_hq1 ?r3_hy1 (by assumption) ?_
              case r3_ho1 => (conv => lhs; whnf; arg 1; whnf)
              case r3_hq1 => exact fun _ _ _ h => h
              case r3_hy1 => (refine Or.inl ⟨by rfl, ?_⟩; intro w hSw; (try dsimp only at hSw); first | (go_simp; done) | (go_simp; with_reducible rfl))
              try simp only [Act.put, List.setIfInBounds_toArray, List.set_cons_zero, List.set_cons_succ]
              refine wpAnyH_ready (rs := [2]) (by kernel_rfl) (by simp) ?_
              refine AllReadyH.cons (o := ?r3_o2) ?r3_ho2 (fun K hK => ?_) AllReadyH.nil
              case r3_ho2 => (conv => lhs; whnf; arg 1; whnf)
              refine step_call_gu rfl CEW.out _ _ rfl #[.int .i64 x, .int .i64 k] rfl (CW.out _) ?_; rintro r wb ⟨rfl, rfl⟩; refine ⟨_, rfl, ?_⟩
              refine hK.out _ _ ?r3_hS2 (fun hHeld2 => ?_)
              case r3_hS2 => exact FK.out _ (Ex.refl _).drew
              clear hK K hHeld
              try simp only [Act.put, List.setIfInBounds_toArray, List.set_cons_zero, List.set_cons_succ]
              refine wpAnyH_take (i := 3) (oi := ?r3_o3) (v := ?r3_v3) ?r3_ho3 (by kernel_rfl) (by kernel_rfl) (by kernel_rfl) ?r3_hq3 ?r3_hy3 (by assumption) ?_
              case r3_ho3 => (conv => lhs; whnf; arg 1; whnf)
              case r3_hq3 => exact fun _ _ _ h => h
              case r3_hy3 => (refine Or.inl ⟨by rfl, ?_⟩; intro w hSw; (try dsimp only at hSw); first | (go_simp; done) | (go_simp; with_reducible rfl))
              try simp only [Act.put, List.setIfInBounds_toArray, List.set_cons_zero, List.set_cons_succ]
              refine wpAnyH_take (i := 4) (oi := ?r3_o4) (v := ?r3_v4) ?r3_ho4 (by kernel_rfl) (by kernel_rfl) (by kernel_rfl) ?r3_hq4 ?r3_hy4 (by assumption) ?_
              case r3_ho4 => (conv => lhs; whnf; arg 1; whnf)
              case r3_hq4 => exact fun _ _ _ h => h
              case r3_hy4 => (refine Or.inl ⟨by rfl, ?_⟩; intro w hSw; (try dsimp only at hSw); first | (go_simp; done) | (go_simp; with_reducible rfl))
              try simp only [Act.put, List.setIfInBounds_toArray, List.set_cons_zero, List.set_cons_succ]
              refine wpAnyH_take (i := 5) (oi := ?r3_o5) (v := ?r3_v5) ?r3_ho5 (by kernel_rfl) (by kernel_rfl) (by kernel_rfl) ?r3_hq5 ?r3_hy5 (by assumption) ?_
              case r3_ho5 => (conv => lhs; whnf; arg 1; whnf)
              case r3_hq5 => exact fun _ _ _ h => h
              case r3_hy5 => (refine Or.inl ⟨by rfl, ?_⟩; intro w hSw; (try dsimp only at hSw); first | (go_simp; done) | (go_simp; with_reducible rfl))
              try simp only [Act.put, List.setIfInBounds_toArray, List.set_cons_zero, List.set_cons_succ]
              refine wpAnyH_take (i := 6) (oi := ?r3_o6) (v := ?r3_v6) ?r3_ho6 (by kernel_rfl) (by kernel_rfl) (by kernel_rfl) ?r3_hq6 ?r3_hy6 (by assumption) ?_
              case r3_ho6 => (conv => lhs; whnf; arg 1; whnf)
              case r3_hq6 => exact fun _ _ _ h => h
              case r3_hy6 => (refine Or.inl ⟨by rfl, ?_⟩; intro w hSw; (try dsimp only at hSw); first | (go_simp; done) | (go_simp; with_reducible rfl))
              try simp only [Act.put, List.setIfInBounds_toArray, List.set_cons_zero, List.set_cons_succ]
              refine wpAnyH_take (i := 7) (oi := ?r3_o7) (v := ?r3_v7) ?r3_ho7 (by kernel_rfl) (by kernel_rfl) (by kernel_rfl) ?r3_hq7 ?r3_hy7 (by assumption) ?_
              case r3_ho7 => (conv => lhs; whnf; arg 1; whnf)
              case r3_hq7 => exact fun _ _ _ h => h
              case r3_hy7 => (refine Or.inl ⟨by rfl, ?_⟩; intro w hSw; (try dsimp only at hSw); first | (go_simp; done) | (go_simp; with_reducible rfl))
              try simp only [Act.put, List.setIfInBounds_toArray, List.set_cons_zero, List.set_cons_succ]
              refine wpAnyH_take (i := 8) (oi := ?r3_o8) (v := ?r3_v8) ?r3_ho8 (by kernel_rfl) (by kernel_rfl) (by kernel_rfl) ?r3_hq8 ?r3_hy8 (by assumption) ?_
              case r3_ho8 => (conv => lhs; whnf; arg 1; whnf)
              case r3_hq8 => exact fun _ _ _ h => h
              case r3_hy8 => (refine Or.inl ⟨by rfl, ?_⟩; intro w hSw; (try dsimp only at hSw); first | (go_simp; done) | (go_simp; with_reducible rfl))
              try simp only [Act.put, List.setIfInBounds_toArray, List.set_cons_zero, List.set_cons_succ]
              refine wpAnyH_take (i := 9) (oi := ?r3_o9) (v := ?r3_v9) ?r3_ho9 (by kernel_rfl) (by kernel_rfl) (by kernel_rfl) ?r3_hq9 ?r3_hy9 (by assumption) ?_
              case r3_ho9 => (conv => lhs; whnf; arg 1; whnf)
              case r3_hq9 => exact fun _ _ _ h => h
              case r3_hy9 => (refine Or.inl ⟨by rfl, ?_⟩; intro w hSw; (try dsimp only at hSw); first | (go_simp; done) | (go_simp; with_reducible rfl))
              try simp only [Act.put, List.setIfInBounds_toArray, List.set_cons_zero, List.set_cons_succ]
              refine wpAnyH_take (i := 10) (oi := ?r3_o10) (v := ?r3_v10) ?r3_ho10 (by kernel_rfl) (by kernel_rfl) (by kernel_rfl) ?r3_hq10 ?r3_hy10 (by assumption) ?_
              case r3_ho10 => (conv => lhs; whnf; arg 1; whnf)
              case r3_hq10 => exact fun _ _ _ h => h
              case r3_hy10 => (refine Or.inl ⟨by rfl, ?_⟩; intro w hSw; (try dsimp only at hSw); first | (go_simp; done) | (go_simp; with_reducible rfl))
              try simp only [Act.put, List.setIfInBounds_toArray, List.set_cons_zero, List.set_cons_succ]
              refine wpAnyH_take (i := 11) (oi := ?r3_o11) (v := ?r3_v11) ?r3_ho11 (by kernel_rfl) (by kernel_rfl) (by kernel_rfl) ?r3_hq11 ?r3_hy11 (by assumption) ?_
              case r3_ho11 => (conv => lhs; whnf; arg 1; whnf)
              case r3_hq11 => exact fun _ _ _ h => h
              case r3_hy11 => (refine Or.inl ⟨by rfl, ?_⟩; intro w hSw; (try dsimp only at hSw); first | (go_simp; done) | (go_simp; with_reducible rfl))
              try simp only [Act.put, List.setIfInBounds_toArray, List.set_cons_zero, List.set_cons_succ]
              refine wpAnyH_take (i := 12) (oi := ?r3_o12) (v := ?r3_v12) ?r3_ho12 (by kernel_rfl) (by kernel_rfl) (by kernel_rfl) ?r3_hq12 ?r3_hy12 (by assumption) ?_
              case r3_ho12 => (conv => lhs; whnf; arg 1; whnf)
              case r3_hq12 => exact fun _ _ _ h => h
              case r3_hy12 => (refine Or.inl ⟨by rfl, ?_⟩; intro w hSw; (try dsimp only at hSw); first | (go_simp; done) | (go_simp; with_reducible rfl))
              try simp only [Act.put, List.setIfInBounds_toArray, List.set_cons_zero, List.set_cons_succ]
              refine wpAnyH_take (i := 13) (oi := ?r3_o13) (v := ?r3_v13) ?r3_ho13 (by kernel_rfl) (by kernel_rfl) (by kernel_rfl) ?r3_hq13 ?r3_hy13 (by assumption) ?_
              case r3_ho13 => (conv => lhs; whnf; arg 1; whnf)
              case r3_hq13 => exact fun _ _ _ h => h
              case r3_hy13 => (refine Or.inl ⟨by rfl, ?_⟩; intro w hSw; (try dsimp only at hSw); first | (go_simp; done) | (go_simp; with_reducible rfl))
              try simp only [Act.put, List.setIfInBounds_toArray, List.set_cons_zero, List.set_cons_succ]
              refine wpAnyH_take (i := 14) (oi := ?r3_o14) (v := ?r3_v14) ?r3_ho14 (by kernel_rfl) (by kernel_rfl) (by kernel_rfl) ?r3_hq14 ?r3_hy14 (by assumption) ?_
              case r3_ho14 => (conv => lhs; whnf; arg 1; whnf)
              case r3_hq14 => exact fun _ _ _ h => h
              case r3_hy14 => (refine Or.inl ⟨by rfl, ?_⟩; intro w hSw; (try dsimp only at hSw); first | (go_simp; done) | (go_simp; with_reducible rfl))
              try simp only [Act.put, List.setIfInBounds_toArray, List.set_cons_zero, List.set_cons_succ]
              refine wpAnyH_take (i := 15) (oi := ?r3_o15) (v := ?r3_v15) ?r3_ho15 (by kernel_rfl) (by kernel_rfl) (by kernel_rfl) ?r3_hq15 ?r3_hy15 (by assumption) ?_
              case r3_ho15 => (conv => lhs; whnf; arg 1; whnf)
              case r3_hq15 => exact fun _ _ _ h => h
              case r3_hy15 => (refine Or.inl ⟨by rfl, ?_⟩; intro w hSw; (try dsimp only at hSw); first | (go_simp; done) | (go_simp; with_reducible rfl))
              try simp only [Act.put, List.setIfInBounds_toArray, List.set_cons_zero, List.set_cons_succ]
              refine wpAnyH_take (i := 16) (oi := ?r3_o16) (v := ?r3_v16) ?r3_ho16 (by kernel_rfl) (by kernel_rfl) (by kernel_rfl) ?r3_hq16 ?r3_hy16 (by assumption) ?_
              case r3_ho16 => (conv => lhs; whnf; arg 1; whnf)
              case r3_hq16 => exact fun _ _ _ h => h
              case r3_hy16 => (refine Or.inl ⟨by rfl, ?_⟩; intro w hSw; (try dsimp only at hSw); first | (go_simp; done) | (go_simp; with_reducible rfl))
              try simp only [Act.put, List.setIfInBounds_toArray, List.set_cons_zero, List.set_cons_succ]
              refine wpAnyH_take (i := 17) (oi := ?r3_o17) (v := ?r3_v17) ?r3_ho17 (by kernel_rfl) (by kernel_rfl) (by kernel_rfl) ?r3_hq17 ?r3_hy17 (by assumption) ?_
              case r3_ho17 => (conv => lhs; whnf; arg 1; whnf)
              case r3_hq17 => exact fun _ _ _ h => h
              case r3_hy17 => (refine Or.inl ⟨by rfl, ?_⟩; intro w hSw; (try dsimp only at hSw); first | (go_simp; done) | (go_simp; with_reducible rfl))
              try simp only [Act.put, List.setIfInBounds_toArray, List.set_cons_zero, List.set_cons_succ]
              refine wpAnyH_take (i := 18) (oi := ?r3_o18) (v := ?r3_v18) ?r3_ho18 (by kernel_rfl) (by kernel_rfl) (by kernel_rfl) ?r3_hq18 ?r3_hy18 (by assumption) ?_
              case r3_ho18 => (conv => lhs; whnf; arg 1; whnf)
              case r3_hq18 => exact fun _ _ _ h => h
              case r3_hy18 => (refine Or.inl ⟨by rfl, ?_⟩; intro w hSw; (try dsimp only at hSw); first | (go_simp; done) | (go_simp; with_reducible rfl))
              try simp only [Act.put, List.setIfInBounds_toArray, List.set_cons_zero, List.set_cons_succ]
              refine wpAnyH_take (i := 19) (oi := ?r3_o19) (v := ?r3_v19) ?r3_ho19 (by kernel_rfl) (by kernel_rfl) (by kernel_rfl) ?r3_hq19 ?r3_hy19 (by assumption) ?_
              case r3_ho19 => (conv => lhs; whnf; arg 1; whnf)
              case r3_hq19 => exact fun _ _ _ h => h
              case r3_hy19 => (refine Or.inl ⟨by rfl, ?_⟩; intro w hSw; (try dsimp only at hSw); first | (go_simp; done) | (go_simp; with_reducible rfl))
              try simp only [Act.put, List.setIfInBounds_toArray, List.set_cons_zero, List.set_cons_succ]
              refine wpAnyH_take (i := 20) (oi := ?r3_o20) (v := ?r3_v20) ?r3_ho20 (by kernel_rfl) (by kernel_rfl) (by kernel_rfl) ?r3_hq20 ?r3_hy20 (by assumption) ?_
              case r3_ho20 => (conv => lhs; whnf; arg 1; whnf)
              case r3_hq20 => exact fun _ _ _ h => h
              case r3_hy20 => (refine Or.inl ⟨by rfl, ?_⟩; intro w hSw; (try dsimp only at hSw); first | (go_simp; done) | (go_simp; with_reducible rfl))
              try simp only [Act.put, List.setIfInBounds_toArray, List.set_cons_zero, List.set_cons_succ]
              refine wpAnyH_take (i := 21) (oi := ?r3_o21) (v := ?r3_v21) ?r3_ho21 (by kernel_rfl) (by kernel_rfl) (by kernel_rfl) ?r3_hq21 ?r3_hy21 (by assumption) ?_
              case r3_ho21 => (conv => lhs; whnf; arg 1; whnf)
              case r3_hq21 => exact fun _ _ _ h => h
              case r3_hy21 => (refine Or.inl ⟨by rfl, ?_⟩; intro w hSw; (try dsimp only at hSw); first | (go_simp; done) | (go_simp; with_reducible rfl))
              try simp only [Act.put, List.setIfInBounds_toArray, List.set_cons_zero, List.set_cons_succ]
              refine wpAnyH_take (i := 22) (oi := ?r3_o22) (v := ?r3_v22) ?r3_ho22 (by kernel_rfl) (by kernel_rfl) (by kernel_rfl) ?r3_hq22 ?r3_hy22 (by assumption) ?_
              case r3_ho22 => (conv => lhs; whnf; arg 1; whnf)
              case r3_hq22 => exact fun _ _ _ h => h
              case r3_hy22 => (refine Or.inl ⟨by rfl, ?_⟩; intro w hSw; (try dsimp only at hSw); first | (go_simp; done) | (go_simp; with_reducible rfl))
              try simp only [Act.put, List.setIfInBounds_toArray, List.set_cons_zero, List.set_cons_succ]
              refine wpAnyH_take (i := 23) (oi := ?r3_o23) (v := ?r3_v23) ?r3_ho23 (by kernel_rfl) (by kernel_rfl) (by kernel_rfl) ?r3_hq23 ?r3_hy23 (by assumption) ?_
              case r3_ho23 => (conv => lhs; whnf; arg 1; whnf)
              case r3_hq23 => exact fun _ _ _ h => h
              case r3_hy23 => (refine Or.inl ⟨by rfl, ?_⟩; intro w hSw; (try dsimp only at hSw); first | (go_simp; done) | (go_simp; with_reducible rfl))
              try simp only [Act.put, List.setIfInBounds_toArray, List.set_cons_zero, List.set_cons_succ]
              refine wpAnyH_take (i := 24) (oi := ?r3_o24) (v := ?r3_v24) ?r3_ho24 (by kernel_rfl) (by kernel_rfl) (by kernel_rfl) ?r3_hq24 ?r3_hy24 (by assumption) ?_
              case r3_ho24 => (conv => lhs; whnf; arg 1; whnf)
              case r3_hq24 => exact fun _ _ _ h => h
              case r3_hy24 => (refine Or.inl ⟨by rfl, ?_⟩; intro w hSw; (try dsimp only at hSw); first | (go_simp; done) | (go_simp; with_reducible rfl))
              try simp only [Act.put, List.setIfInBounds_toArray, List.set_cons_zero, List.set_cons_succ]
              refine wpAnyH_take (i := 25) (oi := ?r3_o25) (v := ?r3_v25) ?r3_ho25 (by kernel_rfl) (by kernel_rfl) (by kernel_rfl) ?r3_hq25 ?r3_hy25 (by assumption) ?_
              case r3_ho25 => (conv => lhs; whnf; arg 1; whnf)
              case r3_hq25 => exact fun _ _ _ h => h
              case r3_hy25 => (refine Or.inl ⟨by rfl, ?_⟩; intro w hSw; (try dsimp only at hSw); first | (go_simp; done) | (go_simp; with_reducible rfl))
              try simp only [Act.put, List.setIfInBounds_toArray, List.set_cons_zero, List.set_cons_succ]
              refine wpAnyH_take (i := 26) (oi := ?r3_o26) (v := ?r3_v26) ?r3_ho26 (by kernel_rfl) (by kernel_rfl) (by kernel_rfl) ?r3_hq26 ?r3_hy26 (by assumption) ?_
              case r3_ho26 => (conv => lhs; whnf; arg 1; whnf)
              case r3_hq26 => exact fun _ _ _ h => h
              case r3_hy26 => (refine Or.inl ⟨by rfl, ?_⟩; intro w hSw; (try dsimp only at hSw); first | (go_simp; done) | (go_simp; with_reducible rfl))
              try simp only [Act.put, List.setIfInBounds_toArray, List.set_cons_zero, List.set_cons_succ]
              refine wpAnyH_take (i := 27) (oi := ?r3_o27) (v := ?r3_v27) ?r3_ho27 (by kernel_rfl) (by kernel_rfl) (by kernel_rfl) ?r3_hq27 ?r3_hy27 (by assumption) ?_
              case r3_ho27 => (conv => lhs; whnf; arg 1; whnf)
              case r3_hq27 => exact fun _ _ _ h => h
              case r3_hy27 => (refine Or.inl ⟨by rfl, ?_⟩; intro w hSw; (try dsimp only at hSw); first | (go_simp; done) | (go_simp; with_reducible rfl))
              try simp only [Act.put, List.setIfInBounds_toArray, List.set_cons_zero, List.set_cons_succ]
              refine wpAnyH_take (i := 29) (oi := ?r3_o29) (v := ?r3_v29) ?r3_ho29 (by kernel_rfl) (by kernel_rfl) (by kernel_rfl) ?r3_hq29 ?r3_hy29 (by assumption) ?_
              case r3_ho29 => (conv => lhs; whnf; arg 1; whnf)
              case r3_hq29 => exact fun _ _ _ h => h
              case r3_hy29 => (refine Or.inl ⟨by rfl, ?_⟩; intro w hSw; (try dsimp only at hSw); first | (go_simp; done) | (go_simp; with_reducible rfl))
              try simp only [Act.put, List.setIfInBounds_toArray, List.set_cons_zero, List.set_cons_succ]
              refine wpAnyH_ready (rs := [28]) (by kernel_rfl) (by simp) ?_
              refine AllReadyH.cons (o := ?r3_o28) ?r3_ho28 (fun K hK => ?_) AllReadyH.nil
              case r3_ho28 => (conv => lhs; whnf; arg 1; whnf)
              refine step_call_gu rfl CEH.out _ _ rfl #[.agg #[.int .i64 f.key.space, .int .i64 f.key.page], .int .i64 m] rfl (CH.out _) ?_; rintro r wa ⟨rfl, hwa⟩; refine ⟨_, rfl, ?_⟩; have hxa := Ex.trans (Ex.refl _).drew hwa
              refine hK.out _ _ ?r3_hS28 (fun hHeld28 => ?_)
              case r3_hS28 => exact FK.out _ hxa
              clear hK K hHeld2
              try simp only [Act.put, List.setIfInBounds_toArray, List.set_cons_zero, List.set_cons_succ]
              refine wpAnyH_take (i := 30) (oi := ?r3_o30) (v := ?r3_v30) ?r3_ho30 (by kernel_rfl) (by kernel_rfl) (by kernel_rfl) ?r3_hq30 ?r3_hy30 (by assumption) ?_
              case r3_ho30 => (conv => lhs; whnf; arg 1; whnf)
              case r3_hq30 => exact fun _ _ _ h => h
              case r3_hy30 => (refine Or.inl ⟨by rfl, ?_⟩; intro w hSw; (try dsimp only at hSw); first | (go_simp; done) | (go_simp; with_reducible rfl))
              try simp only [Act.put, List.setIfInBounds_toArray, List.set_cons_zero, List.set_cons_succ]
              refine wpAnyH_take (i := 31) (oi := ?r3_o31) (v := ?r3_v31) ?r3_ho31 (by kernel_rfl) (by kernel_rfl) (by kernel_rfl) ?r3_hq31 ?r3_hy31 (by assumption) ?_
              case r3_ho31 => (conv => lhs; whnf; arg 1; whnf)
              case r3_hq31 => exact fun _ _ _ h => h
              case r3_hy31 => (refine Or.inl ⟨by rfl, ?_⟩; intro w hSw; (try dsimp only at hSw); first | (go_simp; done) | (go_simp; with_reducible rfl))
              try simp only [Act.put, List.setIfInBounds_toArray, List.set_cons_zero, List.set_cons_succ]
              refine wpAnyH_done (by kernel_rfl) ?_ _
              have HEA := Lib.hid hxa
              have hfew : (pre ++ [x]).length + sumL ls ≤ k := by
                have h1 := (HMU.out.step hxk HS3.out).few
                have h2 := (HMU.out.step hxk HS3.out).2.2.1
                omega
              have hfew2 : sumL ls + pre.length < k := by simp at hfew; omega
              clear hfew hxa hwa
              go_wp2_with (at_mapUpdate; go_must (refine wpList_put_set _ rfl _ _ _ rfl g (sumL ls + pre.length) S3 rfl (HIS.out.ex HEA.out) (by simp only [maxLen]; omega) (x : Int) HS3.out rfl rfl HWX.out ?_); intro w4 hs4 hg4; have HE4 := Lib.hid ((HE.out.trans HEA.out).grown hg4 (fun z hz => by injection hz with hz; have := HG0.out; omega)); have KX4 := Lib.hid ((KX.out.ex HEA.out).grown hg4 (by intro e; injection e with e; have := HG0.out; omega)); obtain ⟨q0, q1⟩ := KX4.out.c2; have jX4 := KX4.out.lt; obtain ⟨b3, o3, f3, e3, hb3, hf3, j0, j1, j2, j3, j4⟩ := (HY.out.ex HE4.out).frame (k := x) (by have := HN.out; omega); injection e3 with e3; injection e3 with e4 e5; subst e4; subst e5; have e6 : f = f3 := (by rw [HFX.out] at hf3; injection hf3); subst e6; clear hf3 j0 j1 j2 j3)
              go_roundw
              case rel => exact ⟨pre ++ [x], f.next, (x : Int) :: S3, rfl, HTR.out.step HFX.out HU.out, (fun i f' hi hf => by
                rcases List.mem_append.1 hi with hi | hi
                · exact HPH.out i f' hi hf
                · have e7 : i = x := by simpa using hi
                  subst e7
                  rw [HFX.out] at hf
                  injection hf with hf
                  rw [← hf]
                  exact HHV.out.symm), HMU.out.step hxk HS3.out, by simpa [Nat.add_assoc] using hs4, (HMP.out.ex HEA.out).kept hg4 (by intro e; injection e with e; have := HG0.out; omega), KX4.out, HE4.out⟩
              case measure => rw [hs4.num, HIS.out.num, HMU.out.2.2.1, List.length_cons, HMU.out.2.2.1]; omega
            · have HEHV := Lib.hid ehv
              go_wp2_with fail
              refine wp_region_held_drew (S := (fun w' => ((Instr.lookup 111 (.map (some g)) (.int .i64 (x : Int)) false).run Tryd.prog w' = .ok (.bool false) w' ∧ w'.cell? ⟨w.heap.size, 0, none⟩ = some (.slice (some ⟨b5, o5, none⟩) m c) ∧ w'.cell? ⟨w.heap.size, 1, none⟩ = some (.slice (some ⟨b2, o2, none⟩) k d) ∧ w'.cell? ⟨b2, o2 + x * 5, none⟩ = some (.bool true) ∧ w'.cell? ⟨b2, o2 + x * 5 + 1, none⟩ = some (.int .i64 f.key.space) ∧ w'.cell? ⟨b2, o2 + x * 5 + 2, none⟩ = some (.int .i64 f.key.page)))) (by kernel_rfl) ?r4_hS0 (fun hHeld => ?_)
              case r4_hS0 => exact FK.out _ (Ex.refl _).drew
              refine wpAnyH_take (i := 0) (oi := ?r4_o0) (v := ?r4_v0) ?r4_ho0 (by kernel_rfl) (by kernel_rfl) (by kernel_rfl) ?r4_hq0 ?r4_hy0 (by assumption) ?_
              case r4_ho0 => (conv => lhs; whnf; arg 1; whnf)
              case r4_hq0 => exact fun _ _ _ h => h
              case r4_hy0 => (refine Or.inl ⟨by rfl, ?_⟩; intro w hSw; (try dsimp only at hSw); first | (go_simp; done) | (go_simp; with_reducible rfl))
              try simp only [Act.put, List.setIfInBounds_toArray, List.set_cons_zero, List.set_cons_succ]
              refine wpAnyH_take (i := 1) (oi := ?r4_o1) (v := ?r4_v1) ?r4_ho1 (by kernel_rfl) (by kernel_rfl) (by kernel_rfl) ?r4_hq1 ?r4_hy1 (by assumption) ?_
              case r4_ho1 => (conv => lhs; whnf; arg 1; whnf)
              case r4_hq1 => exact fun _ _ _ h => h
              case r4_hy1 => (refine Or.inl ⟨by rfl, ?_⟩; intro w hSw; (try dsimp only at hSw); first | (go_simp; done) | (go_simp; with_reducible rfl))
              try simp only [Act.put, List.setIfInBounds_toArray, List.set_cons_zero, List.set_cons_succ]
              refine wpAnyH_ready (rs := [2]) (by kernel_rfl) (by simp) ?_
              refine AllReadyH.cons (o := ?r4_o2) ?r4_ho2 (fun K hK => ?_) AllReadyH.nil
              case r4_ho2 => (conv => lhs; whnf; arg 1; whnf)
              refine step_call_gu rfl CEW.out _ _ rfl #[.int .i64 x, .int .i64 k] rfl (CW.out _) ?_; rintro r wb ⟨rfl, rfl⟩; refine ⟨_, rfl, ?_⟩
              refine hK.out _ _ ?r4_hS2 (fun hHeld2 => ?_)
              case r4_hS2 => exact FK.out _ (Ex.refl _).drew
              clear hK K hHeld
              try simp only [Act.put, List.setIfInBounds_toArray, List.set_cons_zero, List.set_cons_succ]
              refine wpAnyH_take (i := 3) (oi := ?r4_o3) (v := ?r4_v3) ?r4_ho3 (by kernel_rfl) (by kernel_rfl) (by kernel_rfl) ?r4_hq3 ?r4_hy3 (by assumption) ?_
              case r4_ho3 => (conv => lhs; whnf; arg 1; whnf)
              case r4_hq3 => exact fun _ _ _ h => h
              case r4_hy3 => (refine Or.inl ⟨by rfl, ?_⟩; intro w hSw; (try dsimp only at hSw); first | (go_simp; done) | (go_simp; with_reducible rfl))
              try simp only [Act.put, List.setIfInBounds_toArray, List.set_cons_zero, List.set_cons_succ]
              refine wpAnyH_take (i := 4) (oi := ?r4_o4) (v := ?r4_v4) ?r4_ho4 (by kernel_rfl) (by kernel_rfl) (by kernel_rfl) ?r4_hq4 ?r4_hy4 (by assumption) ?_
              case r4_ho4 => (conv => lhs; whnf; arg 1; whnf)
              case r4_hq4 => exact fun _ _ _ h => h
              case r4_hy4 => (refine Or.inl ⟨by rfl, ?_⟩; intro w hSw; (try dsimp only at hSw); first | (go_simp; done) | (go_simp; with_reducible rfl))
              try simp only [Act.put, List.setIfInBounds_toArray, List.set_cons_zero, List.set_cons_succ]
              refine wpAnyH_take (i := 5) (oi := ?r4_o5) (v := ?r4_v5) ?r4_ho5 (by kernel_rfl) (by kernel_rfl) (by kernel_rfl) ?r4_hq5 ?r4_hy5 (by assumption) ?_
              case r4_ho5 => (conv => lhs; whnf; arg 1; whnf)
              case r4_hq5 => exact fun _ _ _ h => h
              case r4_hy5 => (refine Or.inl ⟨by rfl, ?_⟩; intro w hSw; (try dsimp only at hSw); first | (go_simp; done) | (go_simp; with_reducible rfl))
              try simp only [Act.put, List.setIfInBounds_toArray, List.set_cons_zero, List.set_cons_succ]
              refine wpAnyH_take (i := 6) (oi := ?r4_o6) (v := ?r4_v6) ?r4_ho6 (by kernel_rfl) (by kernel_rfl) (by kernel_rfl) ?r4_hq6 ?r4_hy6 (by assumption) ?_
              case r4_ho6 => (conv => lhs; whnf; arg 1; whnf)
              case r4_hq6 => exact fun _ _ _ h => h
              case r4_hy6 => (refine Or.inl ⟨by rfl, ?_⟩; intro w hSw; (try dsimp only at hSw); first | (go_simp; done) | (go_simp; with_reducible rfl))
              try simp only [Act.put, List.setIfInBounds_toArray, List.set_cons_zero, List.set_cons_succ]
              refine wpAnyH_take (i := 7) (oi := ?r4_o7) (v := ?r4_v7) ?r4_ho7 (by kernel_rfl) (by kernel_rfl) (by kernel_rfl) ?r4_hq7 ?r4_hy7 (by assumption) ?_
              case r4_ho7 => (conv => lhs; whnf; arg 1; whnf)
              case r4_hq7 => exact fun _ _ _ h => h
              case r4_hy7 => (refine Or.inl ⟨by rfl, ?_⟩; intro w hSw; (try dsimp only at hSw); first | (go_simp; done) | (go_simp; with_reducible rfl))
              try simp only [Act.put, List.setIfInBounds_toArray, List.set_cons_zero, List.set_cons_succ]
              refine wpAnyH_take (i := 8) (oi := ?r4_o8) (v := ?r4_v8) ?r4_ho8 (by kernel_rfl) (by kernel_rfl) (by kernel_rfl) ?r4_hq8 ?r4_hy8 (by assumption) ?_
              case r4_ho8 => (conv => lhs; whnf; arg 1; whnf)
              case r4_hq8 => exact fun _ _ _ h => h
              case r4_hy8 => (refine Or.inl ⟨by rfl, ?_⟩; intro w hSw; (try dsimp only at hSw); first | (go_simp; done) | (go_simp; with_reducible rfl))
              try simp only [Act.put, List.setIfInBounds_toArray, List.set_cons_zero, List.set_cons_succ]
              refine wpAnyH_take (i := 9) (oi := ?r4_o9) (v := ?r4_v9) ?r4_ho9 (by kernel_rfl) (by kernel_rfl) (by kernel_rfl) ?r4_hq9 ?r4_hy9 (by assumption) ?_
              case r4_ho9 => (conv => lhs; whnf; arg 1; whnf)
              case r4_hq9 => exact fun _ _ _ h => h
              case r4_hy9 => (refine Or.inl ⟨by rfl, ?_⟩; intro w hSw; (try dsimp only at hSw); first | (go_simp; done) | (go_simp; with_reducible rfl))
              try simp only [Act.put, List.setIfInBounds_toArray, List.set_cons_zero, List.set_cons_succ]
              refine wpAnyH_take (i := 10) (oi := ?r4_o10) (v := ?r4_v10) ?r4_ho10 (by kernel_rfl) (by kernel_rfl) (by kernel_rfl) ?r4_hq10 ?r4_hy10 (by assumption) ?_
              case r4_ho10 => (conv => lhs; whnf; arg 1; whnf)
              case r4_hq10 => exact fun _ _ _ h => h
              case r4_hy10 => (refine Or.inl ⟨by rfl, ?_⟩; intro w hSw; (try dsimp only at hSw); first | (go_simp; done) | (go_simp; with_reducible rfl))
              try simp only [Act.put, List.setIfInBounds_toArray, List.set_cons_zero, List.set_cons_succ]
              refine wpAnyH_take (i := 11) (oi := ?r4_o11) (v := ?r4_v11) ?r4_ho11 (by kernel_rfl) (by kernel_rfl) (by kernel_rfl) ?r4_hq11 ?r4_hy11 (by assumption) ?_
              case r4_ho11 => (conv => lhs; whnf; arg 1; whnf)
              case r4_hq11 => exact fun _ _ _ h => h
              case r4_hy11 => (refine Or.inl ⟨by rfl, ?_⟩; intro w hSw; (try dsimp only at hSw); first | (go_simp; done) | (go_simp; with_reducible rfl))
              try simp only [Act.put, List.setIfInBounds_toArray, List.set_cons_zero, List.set_cons_succ]
              refine wpAnyH_take (i := 12) (oi := ?r4_o12) (v := ?r4_v12) ?r4_ho12 (by kernel_rfl) (by kernel_rfl) (by kernel_rfl) ?r4_hq12 ?r4_hy12 (by assumption) ?_
              case r4_ho12 => (conv => lhs; whnf; arg 1; whnf)
              case r4_hq12 => exact fun _ _ _ h => h
              case r4_hy12 => (refine Or.inl ⟨by rfl, ?_⟩; intro w hSw; (try dsimp only at hSw); first | (go_simp; done) | (go_simp; with_reducible rfl))
              try simp only [Act.put, List.setIfInBounds_toArray, List.set_cons_zero, List.set_cons_succ]
              refine wpAnyH_take (i := 13) (oi := ?r4_o13) (v := ?r4_v13) ?r4_ho13 (by kernel_rfl) (by kernel_rfl) (by kernel_rfl) ?r4_hq13 ?r4_hy13 (by assumption) ?_
              case r4_ho13 => (conv => lhs; whnf; arg 1; whnf)
              case r4_hq13 => exact fun _ _ _ h => h
              case r4_hy13 => (refine Or.inl ⟨by rfl, ?_⟩; intro w hSw; (try dsimp only at hSw); first | (go_simp; done) | (go_simp; with_reducible rfl))
              try simp only [Act.put, List.setIfInBounds_toArray, List.set_cons_zero, List.set_cons_succ]
              refine wpAnyH_take (i := 14) (oi := ?r4_o14) (v := ?r4_v14) ?r4_ho14 (by kernel_rfl) (by kernel_rfl) (by kernel_rfl) ?r4_hq14 ?r4_hy14 (by assumption) ?_
              case r4_ho14 => (conv => lhs; whnf; arg 1; whnf)
              case r4_hq14 => exact fun _ _ _ h => h
              case r4_hy14 => (refine Or.inl ⟨by rfl, ?_⟩; intro w hSw; (try dsimp only at hSw); first | (go_simp; done) | (go_simp; with_reducible rfl))
              try simp only [Act.put, List.setIfInBounds_toArray, List.set_cons_zero, List.set_cons_succ]
              refine wpAnyH_take (i := 15) (oi := ?r4_o15) (v := ?r4_v15) ?r4_ho15 (by kernel_rfl) (by kernel_rfl) (by kernel_rfl) ?r4_hq15 ?r4_hy15 (by assumption) ?_
              case r4_ho15 => (conv => lhs; whnf; arg 1; whnf)
              case r4_hq15 => exact fun _ _ _ h => h
              case r4_hy15 => (refine Or.inl ⟨by rfl, ?_⟩; intro w hSw; (try dsimp only at hSw); first | (go_simp; done) | (go_simp; with_reducible rfl))
              try simp only [Act.put, List.setIfInBounds_toArray, List.set_cons_zero, List.set_cons_succ]
              refine wpAnyH_take (i := 16) (oi := ?r4_o16) (v := ?r4_v16) ?r4_ho16 (by kernel_rfl) (by kernel_rfl) (by kernel_rfl) ?r4_hq16 ?r4_hy16 (by assumption) ?_
              case r4_ho16 => (conv => lhs; whnf; arg 1; whnf)
              case r4_hq16 => exact fun _ _ _ h => h
              case r4_hy16 => (refine Or.inl ⟨by rfl, ?_⟩; intro w hSw; (try dsimp only at hSw); first | (go_simp; done) | (go_simp; with_reducible rfl))
              try simp only [Act.put, List.setIfInBounds_toArray, List.set_cons_zero, List.set_cons_succ]
              refine wpAnyH_take (i := 17) (oi := ?r4_o17) (v := ?r4_v17) ?r4_ho17 (by kernel_rfl) (by kernel_rfl) (by kernel_rfl) ?r4_hq17 ?r4_hy17 (by assumption) ?_
              case r4_ho17 => (conv => lhs; whnf; arg 1; whnf)
              case r4_hq17 => exact fun _ _ _ h => h
              case r4_hy17 => (refine Or.inl ⟨by rfl, ?_⟩; intro w hSw; (try dsimp only at hSw); first | (go_simp; done) | (go_simp; with_reducible rfl))
              try simp only [Act.put, List.setIfInBounds_toArray, List.set_cons_zero, List.set_cons_succ]
              refine wpAnyH_take (i := 18) (oi := ?r4_o18) (v := ?r4_v18) ?r4_ho18 (by kernel_rfl) (by kernel_rfl) (by kernel_rfl) ?r4_hq18 ?r4_hy18 (by assumption) ?_
              case r4_ho18 => (conv => lhs; whnf; arg 1; whnf)
              case r4_hq18 => exact fun _ _ _ h => h
              case r4_hy18 => (refine Or.inl ⟨by rfl, ?_⟩; intro w hSw; (try dsimp only at hSw); first | (go_simp; done) | (go_simp; with_reducible rfl))
              try simp only [Act.put, List.setIfInBounds_toArray, List.set_cons_zero, List.set_cons_succ]
              refine wpAnyH_take (i := 19) (oi := ?r4_o19) (v := ?r4_v19) ?r4_ho19 (by kernel_rfl) (by kernel_rfl) (by kernel_rfl) ?r4_hq19 ?r4_hy19 (by assumption) ?_
              case r4_ho19 => (conv => lhs; whnf; arg 1; whnf)
              case r4_hq19 => exact fun _ _ _ h => h
              case r4_hy19 => (refine Or.inl ⟨by rfl, ?_⟩; intro w hSw; (try dsimp only at hSw); first | (go_simp; done) | (go_simp; with_reducible rfl))
              try simp only [Act.put, List.setIfInBounds_toArray, List.set_cons_zero, List.set_cons_succ]
              refine wpAnyH_take (i := 20) (oi := ?r4_o20) (v := ?r4_v20) ?r4_ho20 (by kernel_rfl) (by kernel_rfl) (by kernel_rfl) ?r4_hq20 ?r4_hy20 (by assumption) ?_
              case r4_ho20 => (conv => lhs; whnf; arg 1; whnf)
              case r4_hq20 => exact fun _ _ _ h => h
              case r4_hy20 => (refine Or.inl ⟨by rfl, ?_⟩; intro w hSw; (try dsimp only at hSw); first | (go_simp; done) | (go_simp; with_reducible rfl))
              try simp only [Act.put, List.setIfInBounds_toArray, List.set_cons_zero, List.set_cons_succ]
              refine wpAnyH_take (i := 21) (oi := ?r4_o21) (v := ?r4_v21) ?r4_ho21 (by kernel_rfl) (by kernel_rfl) (by kernel_rfl) ?r4_hq21 ?r4_hy21 (by assumption) ?_
              case r4_ho21 => (conv => lhs; whnf; arg 1; whnf)
              case r4_hq21 => exact fun _ _ _ h => h
              case r4_hy21 => (refine Or.inl ⟨by rfl, ?_⟩; intro w hSw; (try dsimp only at hSw); first | (go_simp; done) | (go_simp; with_reducible rfl))
              try simp only [Act.put, List.setIfInBounds_toArray, List.set_cons_zero, List.set_cons_succ]
              refine wpAnyH_take (i := 22) (oi := ?r4_o22) (v := ?r4_v22) ?r4_ho22 (by kernel_rfl) (by kernel_rfl) (by kernel_rfl) ?r4_hq22 ?r4_hy22 (by assumption) ?_
              case r4_ho22 => (conv => lhs; whnf; arg 1; whnf)
              case r4_hq22 => exact fun _ _ _ h => h
              case r4_hy22 => (refine Or.inl ⟨by rfl, ?_⟩; intro w hSw; (try dsimp only at hSw); first | (go_simp; done) | (go_simp; with_reducible rfl))
              try simp only [Act.put, List.setIfInBounds_toArray, List.set_cons_zero, List.set_cons_succ]
              refine wpAnyH_take (i := 23) (oi := ?r4_o23) (v := ?r4_v23) ?r4_ho23 (by kernel_rfl) (by kernel_rfl) (by kernel_rfl) ?r4_hq23 ?r4_hy23 (by assumption) ?_
              case r4_ho23 => (conv => lhs; whnf; arg 1; whnf)
              case r4_hq23 => exact fun _ _ _ h => h
              case r4_hy23 => (refine Or.inl ⟨by rfl, ?_⟩; intro w hSw; (try dsimp only at hSw); first | (go_simp; done) | (go_simp; with_reducible rfl))
              try simp only [Act.put, List.setIfInBounds_toArray, List.set_cons_zero, List.set_cons_succ]
              refine wpAnyH_take (i := 24) (oi := ?r4_o24) (v := ?r4_v24) ?r4_ho24 (by kernel_rfl) (by kernel_rfl) (by kernel_rfl) ?r4_hq24 ?r4_hy24 (by assumption) ?_
              case r4_ho24 => (conv => lhs; whnf; arg 1; whnf)
              case r4_hq24 => exact fun _ _ _ h => h
              case r4_hy24 => (refine Or.inl ⟨by rfl, ?_⟩; intro w hSw; (try dsimp only at hSw); first | (go_simp; done) | (go_simp; with_reducible rfl))
              try simp only [Act.put, List.setIfInBounds_toArray, List.set_cons_zero, List.set_cons_succ]
              refine wpAnyH_take (i := 25) (oi := ?r4_o25) (v := ?r4_v25) ?r4_ho25 (by kernel_rfl) (by kernel_rfl) (by kernel_rfl) ?r4_hq25 ?r4_hy25 (by assumption) ?_
              case r4_ho25 => (conv => lhs; whnf; arg 1; whnf)
              case r4_hq25 => exact fun _ _ _ h => h
              case r4_hy25 => (refine Or.inl ⟨by rfl, ?_⟩; intro w hSw; (try dsimp only at hSw); first | (go_simp; done) | (go_simp; with_reducible rfl))
              try simp only [Act.put, List.setIfInBounds_toArray, List.set_cons_zero, List.set_cons_succ]
              refine wpAnyH_take (i := 26) (oi := ?r4_o26) (v := ?r4_v26) ?r4_ho26 (by kernel_rfl) (by kernel_rfl) (by kernel_rfl) ?r4_hq26 ?r4_hy26 (by assumption) ?_
              case r4_ho26 => (conv => lhs; whnf; arg 1; whnf)
              case r4_hq26 => exact fun _ _ _ h => h
              case r4_hy26 => (refine Or.inl ⟨by rfl, ?_⟩; intro w hSw; (try dsimp only at hSw); first | (go_simp; done) | (go_simp; with_reducible rfl))
              try simp only [Act.put, List.setIfInBounds_toArray, List.set_cons_zero, List.set_cons_succ]
              refine wpAnyH_take (i := 27) (oi := ?r4_o27) (v := ?r4_v27) ?r4_ho27 (by kernel_rfl) (by kernel_rfl) (by kernel_rfl) ?r4_hq27 ?r4_hy27 (by assumption) ?_
              case r4_ho27 => (conv => lhs; whnf; arg 1; whnf)
              case r4_hq27 => exact fun _ _ _ h => h
              case r4_hy27 => (refine Or.inl ⟨by rfl, ?_⟩; intro w hSw; (try dsimp only at hSw); first | (go_simp; done) | (go_simp; with_reducible rfl))
              try simp only [Act.put, List.setIfInBounds_toArray, List.set_cons_zero, List.set_cons_succ]
              refine wpAnyH_take (i := 29) (oi := ?r4_o29) (v := ?r4_v29) ?r4_ho29 (by kernel_rfl) (by kernel_rfl) (by kernel_rfl) ?r4_hq29 ?r4_hy29 (by assumption) ?_
              case r4_ho29 => (conv => lhs; whnf; arg 1; whnf)
              case r4_hq29 => exact fun _ _ _ h => h
              case r4_hy29 => (refine Or.inl ⟨by rfl, ?_⟩; intro w hSw; (try dsimp only at hSw); first | (go_simp; done) | (go_simp; with_reducible rfl))
              try simp only [Act.put, List.setIfInBounds_toArray, List.set_cons_zero, List.set_cons_succ]
              refine wpAnyH_ready (rs := [28]) (by kernel_rfl) (by simp) ?_
              refine AllReadyH.cons (o := ?r4_o28) ?r4_ho28 (fun K hK => ?_) AllReadyH.nil
              case r4_ho28 => (conv => lhs; whnf; arg 1; whnf)
              refine step_call_gu rfl CEH.out _ _ rfl #[.agg #[.int .i64 f.key.space, .int .i64 f.key.page], .int .i64 m] rfl (CH.out _) ?_; rintro r wa ⟨rfl, hwa⟩; refine ⟨_, rfl, ?_⟩; have hxa := Ex.trans (Ex.refl _).drew hwa
              refine hK.out _ _ ?r4_hS28 (fun hHeld28 => ?_)
              case r4_hS28 => exact FK.out _ hxa
              clear hK K hHeld2
              try simp only [Act.put, List.setIfInBounds_toArray, List.set_cons_zero, List.set_cons_succ]
              refine wpAnyH_take (i := 30) (oi := ?r4_o30) (v := ?r4_v30) ?r4_ho30 (by kernel_rfl) (by kernel_rfl) (by kernel_rfl) ?r4_hq30 ?r4_hy30 (by assumption) ?_
              case r4_ho30 => (conv => lhs; whnf; arg 1; whnf)
              case r4_hq30 => exact fun _ _ _ h => h
              case r4_hy30 => (refine Or.inl ⟨by rfl, ?_⟩; intro w hSw; (try dsimp only at hSw); first | (go_simp; done) | (go_simp; with_reducible rfl))
              try simp only [Act.put, List.setIfInBounds_toArray, List.set_cons_zero, List.set_cons_succ]
              refine wpAnyH_take (i := 31) (oi := ?r4_o31) (v := ?r4_v31) ?r4_ho31 (by kernel_rfl) (by kernel_rfl) (by kernel_rfl) ?r4_hq31 ?r4_hy31 (by assumption) ?_
              case r4_ho31 => (conv => lhs; whnf; arg 1; whnf)
              case r4_hq31 => exact fun _ _ _ h => h
              case r4_hy31 => (refine Or.inl ⟨by rfl, ?_⟩; intro w hSw; (try dsimp only at hSw); first | (go_simp; done) | (go_simp; with_reducible rfl))
              try simp only [Act.put, List.setIfInBounds_toArray, List.set_cons_zero, List.set_cons_succ]
              refine wpAnyH_done (by kernel_rfl) ?_ _
              go_wp2
              go_ret
              exact HNO.out _ (HE.out.trans hxa) (not_hash_at HA0.out HTR.out HFX.out (by rw [← HHV.out]; exact HEHV.out))
        · obtain rfl : b = m := by omega
          have h1 := HMU.out.2.2.1
          have h2 := HSL.out
          have H1 := Lib.hid h1
          clear h1 h2
          go_wp2_with (at_len; first | (refine wpList_len_set rfl _ rfl g (sumL ls) S2 rfl HIS.out ?_) | (go_must (refine wpList_len_keys rfl _ rfl (w.heap.size + 1) un S rfl HMP.out ?_)))
          go_ret
          refine ⟨ret_bool ?_, HE.out⟩
          rw [Bool.eq_iff_iff, tableV_iff, tableOk_end HH.out HU3.out (HM.out ▸ HBU.out), ← HUN.out]
          have h1 := H1.out
          have h2 := HSL.out
          simp at h1 ⊢
          omega
end Go.Proofs.YtihlaecbdlgbiaaDoor
