/- Whatever the code, the law FnRehashOne returns true, and its argument and the listed variable read as before; the variable starts as the program lays it (tied). -/
import Derived.Shelf.SlSortCmp.SmallK
import Derived.Shelf.Small.Bits
import Derived.Test.YtbdlpbladpppjaaDoorProg
import Derived.LaidMore
import Derived.Stop.Joined
import Derived.OpenVars
import Derived.Test.YtbdlpbladpppjaaDoorCards
import Derived.Test.YtbdlpbladpppjaaDoorTie
import Derived.SevenTiedAt
import Derived.Test.YtbdlpbladpppjaaDoorPFnRehashOneJ2
import Derived.Test.YtbdlpbladpppjaaDoorPFnRehashOneJ3
import Derived.Test.YtbdlpbladpppjaaDoorPFnRehashOneJ1
/- TableValid of the program: the walk. -/
namespace Go.Proofs.YtbdlpbladpppjaaDoor
open Go.ChangeShapes Go.WideShapes Go.ChangeAt Go.RowKit
open Rec (sz cs)
set_option linter.unusedVariables false
set_option maxRecDepth 100000

set_option maxHeartbeats 4000000 in
theorem tableI_c (t : TableD) (A : Option Addr) (c : Nat) (B : Option Addr) (d : Nat) (w : World) (hx : Rd w A t.buckets) (hy : Rd w B t.frames) (hn : t.buckets.length ≤ 1048576) (hm : t.frames.length ≤ 1048576) (hv : FreeV w) :
    Calls Tryd.prog 14 #[.agg #[.slice A t.buckets.length c, .slice B t.frames.length d]] w fun r w' => r = .returned (.bool (tableV t)) ∧ Ex w w' := by
  have CB := Lib.hid (fun w => bucketsValid_c (t.buckets.length : Int) w)
  by_cases hh : TableHead t
  rotate_left
  · rw [tableV_no (fun h => hh h.1)]
    have h3 : t.frames.length < 1 ∨ 16 < t.frames.length ∨ ((1 ≤ t.frames.length ∧ t.frames.length ≤ 16) ∧ bkB (t.buckets.length : Int) = false) := by
      unfold TableHead at hh
      by_cases g : 1 ≤ t.frames.length ∧ t.frames.length ≤ 16
      · exact .inr (.inr ⟨g, bkB_not.2 (by omega)⟩)
      · omega
    generalize t.frames.length = n at h3 hm ⊢
    generalize t.buckets.length = m at CB hn h3 ⊢
    clear hh hx hy hv
    rcases h3 with h1 | h1 | ⟨⟨h1, h2⟩, h3⟩
    · go_enter Tryd.func14, Tryd.ntmps14
      go_wp2
      go_ret
      exact ⟨rfl, (by repeat' (first | with_reducible exact Ex.refl _ | with_reducible refine Ex.alloc ?_ _ | with_reducible refine Ex.drew ?_ | with_reducible refine Ex.put ?_ (by omega) _))⟩
    · go_enter Tryd.func14, Tryd.ntmps14
      go_wp2
      go_ret
      exact ⟨rfl, (by repeat' (first | with_reducible exact Ex.refl _ | with_reducible refine Ex.alloc ?_ _ | with_reducible refine Ex.drew ?_ | with_reducible refine Ex.put ?_ (by omega) _))⟩
    · rw [h3] at CB
      clear h3
      go_enter Tryd.func14, Tryd.ntmps14
      go_wp2_with fail
      refine (CB.out _).mono ?_
      rintro r w1 ⟨rfl, rfl⟩
      go_wp2
      go_ret
      exact ⟨rfl, (by repeat' (first | with_reducible exact Ex.refl _ | with_reducible refine Ex.alloc ?_ _ | with_reducible refine Ex.drew ?_ | with_reducible refine Ex.put ?_ (by omega) _))⟩
  rw [show bkB (t.buckets.length : Int) = true from bkB_iff.2 (by unfold TableHead at hh; omega)] at CB
  have HH := Lib.hid hh
  obtain ⟨⟨hn1, hn2⟩, hm1, hm2⟩ := hh
  have HX := Lib.hid hx
  have HY := Lib.hid hy
  obtain ⟨n, en⟩ : ∃ n, n = t.frames.length := ⟨_, rfl⟩
  obtain ⟨m, em⟩ : ∃ m, m = t.buckets.length := ⟨_, rfl⟩
  have HN := Lib.hid en
  have HM := Lib.hid em
  rw [← en] at hn1 hn2 ⊢
  rw [← em] at hm1 hm2 CB ⊢
  have HNO : Hid (∀ w', Ex w w' → ¬ TableOk t → (Ending.returned (.bool false) = .returned (.bool (tableV t)) ∧ Ex w w')) := Lib.hid (fun w' h1 h2 => ⟨ret_bool (tableV_no h2).symm, h1⟩)
  have FK : Hid (∀ w', Ex w w' → (w'.cell? ⟨0, 0, none⟩ = some (.bool false) ∧ w'.cell? ⟨0, 1, none⟩ = some (.int .i64 0) ∧ w'.cell? ⟨0, 2, none⟩ = some (.int .i64 0) ∧ w'.cell? ⟨0, 3, none⟩ = some (.int .i64 0) ∧ w'.cell? ⟨0, 4, none⟩ = some (.int .i64 (-1)))) := Lib.hid (fun w' h => by
    have k := hv.ex h
    exact ⟨k.c0, k.c1, k.c2, k.c3, k.c4⟩)
  have h0w : 0 < w.heap.size := hv.lt
  clear hx hy hn hm en em hv
  go_enter Tryd.func14, Tryd.ntmps14
  go_wp2_with fail
  refine (CB.out _).mono ?_
  rintro r w1 ⟨rfl, rfl⟩
  clear CB
  have hmm := @run_makeMap Tryd.prog
  go_wp2
  clear hmm
  go_loopw [30] (fun i wr => ∃ (k : Nat) (S : List KeyD), k ≤ n ∧ i = .int .i64 k ∧ FramesUp t.frames k ∧ KeysUp t.frames k S ∧ HasKeys wr (w.heap.size + 1) (usedN t.frames k) S ∧ S.length = usedN t.frames k ∧ Blk wr w.heap.size 26 [.slice A m c, .slice B n d] ∧ Ex w wr) (fun i _ => n - (intOf i).toNat)
  case atStart => exact ⟨0, [], Nat.zero_le _, rfl, framesUp_zero _, keysUp_zero _, (by have h := HasKeys.made (w.alloc (.cells #[.slice A m c, .slice B n d] 26)); rw [usedN_zero]; simpa using h), rfl, (Blk.new _ _ _).alloc _, ((Ex.refl _).alloc _).alloc _⟩
  case round =>
    obtain ⟨k, S, hk, rfl, hup, hks, hmap, hsl, hbk, hex⟩ := hrel
    have HSL := Lib.hid hsl
    have HU := Lib.hid hup
    have HKS := Lib.hid hks
    have HMP := Lib.hid hmap
    have KX := Lib.hid hbk
    have HE := Lib.hid hex
    clear hup hks hmap hsl hbk hex
    by_cases hlt : k < n
    · obtain ⟨b2, o2, f, rfl, hb2, hfi, k0, k1, k2, k3, k4⟩ := (HY.out.ex HE.out).frame (k := k) (by have := HN.out; omega)
      have HFI := Lib.hid hfi
      have HUS := Lib.hid (usedN_succ hfi)
      clear hfi
      have hgw := Ex.size HE.out
      cases hu : f.used
      · have HFU := Lib.hid hu
        rw [hu] at k0
        obtain ⟨z0, z1, z2, z3, z4⟩ := FK.out wr HE.out
        have hz0 : 0 < wr.heap.size := by omega
        have hneq := neq_frame f freeF
        simp only [freeF, hu] at hneq
        have hgd := guardFrame
        cases hq : eqB f ⟨false, ⟨0, 0⟩, 0, -1⟩
        · rw [hq] at hneq
          have HQ := Lib.hid (eqB_false.1 hq)
          clear hu hq
          go_wp2
          go_ret
          exact HNO.out _ (HE.out.alloc _) (not_frames HFI.out (fun h => HQ.out (h.1.1 HFU.out)))
        · rw [hq] at hneq
          have HQ := Lib.hid (eqB_true.1 hq)
          clear hu hq
          go_wp2
          go_roundw
          case rel => exact ⟨k + 1, S, by omega, by go_num, framesUp_succ HU.out HFI.out ⟨fun _ => HQ.out, fun h => by rw [HFU.out] at h; cases h⟩ (fun j g h1 h2 h3 => by rw [HFU.out] at h3; cases h3), keysUp_no HKS.out HFI.out HFU.out, by rw [HUS.out, HFU.out]; exact HMP.out.ex ((Ex.refl _).alloc _), by rw [HUS.out, HFU.out]; exact HSL.out, KX.out.alloc _, HE.out.alloc _⟩
          case measure => simp [intOf]; omega
      · have HFU := Lib.hid hu
        rw [hu] at k0
        have C1 := Lib.hid (fun w => keyI_c f.key w)
        have C2 := Lib.hid (fun w => rightsI_c f.rights w)
        clear hu
        cases hkb : keyB f.key
        · rw [hkb] at C1
          have HB := Lib.hid hkb
          clear hkb
          go_wp2_with fail
          refine (C1.out _).mono ?_
          rintro r w2 ⟨rfl, he⟩
          have HE2 := Lib.hid ((HE.out.alloc _).trans he)
          clear he
          go_wp2
          go_ret
          exact HNO.out _ HE2.out (not_frames HFI.out (fun h => by have := keyB_iff.2 (h.1.2 HFU.out).1; rw [HB.out] at this; cases this))
        rw [hkb] at C1
        have HB : Hid (keyOk f.key) := Lib.hid (keyB_iff.1 hkb)
        clear hkb
        go_wp2_with fail
        refine (C1.out _).mono ?_
        rintro r w2 ⟨rfl, he⟩
        have HE2 := Lib.hid ((HE.out.alloc _).trans he)
        have KF : Hid (Blk w2 wr.heap.size 47 [.bool true, .int .i64 f.key.space, .int .i64 f.key.page, .int .i64 f.rights, .int .i64 f.next]) := Lib.hid ((Blk.new wr _ _).ex he)
        have KX2 := Lib.hid ((KX.out.alloc _).ex he)
        have HMP2 := Lib.hid ((HMP.out.ex ((Ex.refl _).alloc _)).ex he)
        clear he k0 k1 k2 k3 k4
        obtain ⟨k0, k1, k2, k3, k4⟩ := KF.out.c5
        have jF := KF.out.lt
        cases hrb : inB f.rights 8
        · rw [hrb] at C2
          have HR := Lib.hid hrb
          clear hrb
          go_wp2_with fail
          refine (C2.out _).mono ?_
          rintro r w3 ⟨rfl, rfl⟩
          go_wp2
          go_ret
          exact HNO.out _ HE2.out (not_frames HFI.out (fun h => by have := inB_true.2 (h.1.2 HFU.out).2; rw [HR.out] at this; cases this))
        rw [hrb] at C2
        have HR := Lib.hid (inB_true.1 hrb)
        clear hrb
        obtain ⟨lk, hlk⟩ := keyOf_key f.key (WalkArith.wf_i64 (by have := HB.out.1; omega)) (WalkArith.wf_i64 (by have := HB.out.2; omega))
        have HLK := Lib.hid hlk
        have hloo := HMP2.out.look f.key hlk
        clear hlk
        by_cases hin : f.key ∈ S
        · rw [decide_eq_true hin] at hloo
          have HIN := Lib.hid hin
          clear hin
          go_wp2_with fail
          refine (C2.out _).mono ?_
          rintro r w3 ⟨rfl, rfl⟩
          go_wp2
          go_ret
          exact HNO.out _ HE2.out (not_frames HFI.out (fun h => key_again HKS.out HIN.out HFU.out h.2))
        · rw [decide_eq_false hin] at hloo
          have HIN := Lib.hid hin
          have hul := usedN_le t.frames k
          clear hin
          go_wp2_with fail
          refine (C2.out _).mono ?_
          rintro r w3 ⟨rfl, rfl⟩
          go_wp2_with (at_mapUpdate; go_must (refine wpList_put_key _ rfl _ _ _ rfl (w.heap.size + 1) (usedN t.frames k) S rfl HMP2.out (by simp only [maxLen]; omega) f.key HIN.out rfl rfl HLK.out ?_); intro w4 hs4 hg4)
          go_roundw
          case rel => exact ⟨k + 1, f.key :: S, by omega, by go_num, framesUp_succ HU.out HFI.out ⟨(fun h => by rw [HFU.out] at h; cases h), (fun _ => ⟨HB.out, HR.out⟩)⟩ (key_fresh HKS.out HIN.out), keysUp_yes HKS.out HFI.out HFU.out, by rw [HUS.out, HFU.out]; exact hs4, by rw [HUS.out, HFU.out, List.length_cons, HSL.out]; rfl, KX2.out.grown hg4 (by intro e; injection e with e; omega), HE2.out.grown hg4 (fun g hg => by injection hg with hg; omega)⟩
          case measure => simp [intOf]; omega
    · -- BUCKETS
      obtain rfl : k = n := by omega
      have HU3 : Hid (FramesUp t.frames t.frames.length) := Lib.hid (by rw [← HN.out]; exact HU.out)
      have hul := usedN_le t.frames k
      have HUN : Hid (usedN t.frames k = usedN t.frames t.frames.length) := Lib.hid (by rw [← HN.out])
      generalize usedN t.frames k = un at hul HUN HMP HSL
      obtain ⟨q0, q1⟩ := KX.out.c2
      have jX := KX.out.lt
      have HIS0 := Lib.hid (IntSet.made wr)
      have HMP0 := Lib.hid (HMP.out.ex ((Ex.refl wr).alloc (.map #[] 0)))
      have KX0 := Lib.hid (KX.out.alloc (.map #[] 0))
      have HE0 := Lib.hid (HE.out.alloc (.map #[] 0))
      have HG0 : Hid (w.heap.size + 1 < wr.heap.size ∧ w.heap.size < wr.heap.size) := Lib.hid ⟨HMP.out.lt, jX⟩
      have hmm := @run_makeMap Tryd.prog
      clear HU HKS HMP KX HE
      go_wp2
      clear hmm q0 q1 jX
      obtain ⟨wa, hwa⟩ : ∃ wa : World, wa = wr.alloc (.map #[] 0) := ⟨_, rfl⟩
      obtain ⟨g, hg⟩ : ∃ g, g = wr.heap.size := ⟨_, rfl⟩
      rw [← hwa, ← hg] at HIS0
      rw [← hwa] at HMP0 KX0 HE0
      rw [← hg] at HG0
      rw [← hwa, ← hg]
      clear hwa hg
      go_loopw [75] (fun i wb => ∃ (b : Nat) (ls : List (List Nat)) (S2 : List Int), b ≤ m ∧ i = .int .i64 b ∧ Buckets t b ls ∧ MetUp k ls [] S2 ∧ IntSet wb g (sumL ls) S2 ∧ HasKeys wb (w.heap.size + 1) un S ∧ Blk wb w.heap.size 26 [.slice A m c, .slice B k d] ∧ Ex w wb) (fun i _ => m - (intOf i).toNat)
      case atStart => exact ⟨0, [], [], Nat.zero_le _, rfl, Buckets.zero _, MetUp.zero _, HIS0.out, HMP0.out, KX0.out, HE0.out⟩
      case round =>
        clear HIS0 HMP0 KX0 HE0
        obtain ⟨b, ls, S2, hb, rfl, hbu, hmu, his, hmp, hkx, hexb⟩ := hrel
        have HBU := Lib.hid hbu
        have HMU := Lib.hid hmu
        have HIS := Lib.hid his
        have HMP := Lib.hid hmp
        have KX := Lib.hid hkx
        have HE := Lib.hid hexb
        clear hbu hmu his hmp hkx hexb
        by_cases hbm : b < m
        · obtain ⟨b5, o5, y, rfl, hb5, hyb, hcy⟩ := (HX.out.ex HE.out).int (k := b) (by have := HM.out; omega)
          have HA0 := Lib.hid hyb
          have HB5 : Hid (b < t.buckets.length) := Lib.hid (by have := HM.out; omega)
          clear hyb
          obtain ⟨q0, q1⟩ := KX.out.c2
          have jX := KX.out.lt
          go_wp2
          clear q0 q1 jX hcy hb5
          go_loopw [9] (fun i wq => ∃ (pre : List Nat) (a : Int) (S3 : List Int), i = .int .i64 a ∧ Trail t.frames y pre a ∧ (∀ (x : Nat) (f : FrameD), x ∈ pre → t.frames[x]? = some f → hashK f.key t.buckets.length = b) ∧ MetUp k ls pre S3 ∧ IntSet wq g (sumL ls + pre.length) S3 ∧ HasKeys wq (w.heap.size + 1) un S ∧ Blk wq w.heap.size 26 [.slice (some ⟨b5, o5, none⟩) m c, .slice B k d] ∧ Ex w wq) (fun _ wq => k + 1 - mapN wq g)
          case atStart => exact ⟨[], y, S2, rfl, Trail.start _ _, (fun x f h => by cases h), HMU.out, HIS.out, HMP.out, KX.out, HE.out⟩
          case round =>
            clear HMU HIS HMP KX HE S2
            obtain ⟨pre, a, S3, rfl, htr, hph, hmu, his, hmp, hkx, hexq⟩ := hrel
            have HTR := Lib.hid htr
            have HPH := Lib.hid hph
            have HMU := Lib.hid hmu
            have HIS := Lib.hid his
            have HMP := Lib.hid hmp
            have KX := Lib.hid hkx
            have HE := Lib.hid hexq
            clear htr hph hmu his hmp hkx hexq
            by_cases ha1 : a = -1
            · subst ha1
              go_wp2
              go_roundw
              case rel => exact ⟨b + 1, ls ++ [pre], S3, by omega, by go_num, Trail.done HBU.out HA0.out HTR.out HPH.out, HMU.out.next, by rw [sumL_succ]; exact HIS.out, HMP.out, KX.out, HE.out⟩
              case measure => simp [intOf]; omega
            have CEW : Hid (∀ (args : Array Value) (w : World), (callFunc 22 args).run Tryd.prog w = .ok (.enter 22 args) w) := Lib.hid (enters Tryd.func22 (by kernel_rfl) (by kernel_rfl))
            have CEH : Hid (∀ (args : Array Value) (w : World), (callFunc 36 args).run Tryd.prog w = .ok (.enter 36 args) w) := Lib.hid (enters Tryd.func36 (by kernel_rfl) (by kernel_rfl))
            have CW := Lib.hid (fun w => within_c a (k : Int) w)
            by_cases hin : 0 ≤ a ∧ a < k
            rotate_left
            · rw [show inB a (k : Int) = false from by cases h : inB a (k : Int); rfl; exact absurd (inB_true.1 h) hin] at CW
              have HIN := Lib.hid hin
              have HA1 := Lib.hid ha1
              clear hin
              go_wp2_with fail
              refine wp_region_held_drew (S := (fun w' => True)) (by kernel_rfl) ?r0_hS0 (fun hHeld => ?_)
              case r0_hS0 => exact trivial
              refine tk 0 ?_; refine tk 1 ?_
              refine wpAnyH_ready (rs := [2]) (by kernel_rfl) (by simp) ?_
              refine AllReadyH.cons (o := ?r0_o2) ?r0_ho2 (fun K hK => ?_) AllReadyH.nil
              case r0_ho2 => (conv => lhs; whnf; arg 1; whnf)
              refine step_call_gu rfl CEW.out _ _ rfl #[.int .i64 a, .int .i64 k] rfl (CW.out _) ?_; rintro r wb ⟨rfl, rfl⟩; refine ⟨_, rfl, ?_⟩
              refine hK.out _ _ ?r0_hS2 (fun hHeld2 => ?_)
              case r0_hS2 => exact trivial
              clear hK K hHeld
              try simp only [Act.put, List.setIfInBounds_toArray, List.set_cons_zero, List.set_cons_succ]
              refine tk 3 ?_; refine tk 4 ?_; refine tn 5 ?_; refine tn 6 ?_; refine tn 7 ?_; refine tk 8 ?_; refine tk 9 ?_; refine tn 10 ?_; refine tn 11 ?_; refine tn 12 ?_; refine tn 13 ?_; refine tn 14 ?_; refine tn 15 ?_; refine tn 16 ?_
              refine tk 17 ?_; refine tk 18 ?_; refine tn 19 ?_; refine tn 20 ?_; refine tn 21 ?_; refine tn 22 ?_; refine tn 23 ?_; refine tn 24 ?_; refine tn 25 ?_; refine tn 26 ?_; refine tn 27 ?_; refine tn 28 ?_; refine tn 29 ?_; refine tn 30 ?_
              refine tk 31 ?_
              refine wpAnyH_done (by kernel_rfl) ?_ _
              go_wp2
              go_ret
              exact HNO.out _ HE.out.drew (not_nochain HA0.out (HTR.out.bad (fun x f e hf => absurd (by have := getElem?_lt hf; have := HN.out; omega) HIN.out) HA1.out))
            rw [inB_true.2 hin] at CW
            obtain ⟨x, rfl⟩ : ∃ x : Nat, a = (x : Int) := ⟨a.toNat, by omega⟩
            have hxk : x < k := by omega
            have hwx : (Lit.int .i64 (x : Int)).wf = true := WalkArith.wf_i64 (by omega)
            obtain ⟨b2, o2, f, rfl, hb2, hfx, k0, k1, k2, k3, k4⟩ := (HY.out.ex HE.out).frame (k := x) (by have := HN.out; omega)
            have HFX := Lib.hid hfx
            have HWX := Lib.hid hwx
            clear hin hwx hfx
            by_cases hs3 : (x : Int) ∈ S3
            · have FK : Hid (∀ w', Ex wr w' → ((Instr.lookup 68 (.map (some g)) (.int .i64 (x : Int)) false).run Tryd.prog w' = .ok (.bool true) w')) := Lib.hid (fun w' h => by have := (HIS.out.ex h).look x HWX.out; rwa [decide_eq_true hs3] at this)
              have HS3 := Lib.hid hs3
              clear hs3 k0 k1 k2 k3 k4
              go_wp2_with fail
              refine wp_region_held_drew (S := (fun w' => ((Instr.lookup 68 (.map (some g)) (.int .i64 (x : Int)) false).run Tryd.prog w' = .ok (.bool true) w'))) (by kernel_rfl) ?r1_hS0 (fun hHeld => ?_)
              case r1_hS0 => exact FK.out _ (Ex.refl _).drew
              refine tk 0 ?_; refine tk 1 ?_
              refine wpAnyH_ready (rs := [2]) (by kernel_rfl) (by simp) ?_
              refine AllReadyH.cons (o := ?r1_o2) ?r1_ho2 (fun K hK => ?_) AllReadyH.nil
              case r1_ho2 => (conv => lhs; whnf; arg 1; whnf)
              refine step_call_gu rfl CEW.out _ _ rfl #[.int .i64 x, .int .i64 k] rfl (CW.out _) ?_; rintro r wb ⟨rfl, rfl⟩; refine ⟨_, rfl, ?_⟩
              refine hK.out _ _ ?r1_hS2 (fun hHeld2 => ?_)
              case r1_hS2 => exact FK.out _ (Ex.refl _).drew
              clear hK K hHeld
              try simp only [Act.put, List.setIfInBounds_toArray, List.set_cons_zero, List.set_cons_succ]
              refine tk 3 ?_; refine tk 4 ?_; refine tk 5 ?_; refine tk 6 ?_; refine tk 7 ?_; refine tk 8 ?_; refine tk 9 ?_; refine tn 10 ?_; refine tn 11 ?_; refine tn 12 ?_; refine tn 13 ?_; refine tn 14 ?_; refine tn 15 ?_; refine tn 16 ?_
              refine tk 17 ?_; refine tk 18 ?_; refine tn 19 ?_; refine tn 20 ?_; refine tn 21 ?_; refine tn 22 ?_; refine tn 23 ?_; refine tn 24 ?_; refine tn 25 ?_; refine tn 26 ?_; refine tn 27 ?_; refine tn 28 ?_; refine tn 29 ?_; refine tn 30 ?_
              refine tk 31 ?_
              refine wpAnyH_done (by kernel_rfl) ?_ _
              go_wp2
              go_ret
              exact HNO.out _ HE.out.drew (met_again HMU.out HBU.out HB5.out HA0.out HTR.out HFX.out HS3.out)
            cases hu : f.used
            · rw [hu] at k0
              have FK : Hid (∀ w', Ex wr w' → ((Instr.lookup 68 (.map (some g)) (.int .i64 (x : Int)) false).run Tryd.prog w' = .ok (.bool false) w' ∧ w'.cell? ⟨w.heap.size, 0, none⟩ = some (.slice (some ⟨b5, o5, none⟩) m c) ∧ w'.cell? ⟨w.heap.size, 1, none⟩ = some (.slice (some ⟨b2, o2, none⟩) k d) ∧ w'.cell? ⟨b2, o2 + x * 5, none⟩ = some (.bool false) ∧ w'.cell? ⟨b2, o2 + x * 5 + 1, none⟩ = some (.int .i64 f.key.space) ∧ w'.cell? ⟨b2, o2 + x * 5 + 2, none⟩ = some (.int .i64 f.key.page))) := Lib.hid (fun w' h => ⟨by have := (HIS.out.ex h).look x HWX.out; rwa [decide_eq_false hs3] at this, (KX.out.ex h).c2.1, (KX.out.ex h).c2.2, (h.cell hb2).trans k0, (h.cell hb2).trans k1, (h.cell hb2).trans k2⟩)
              have HU := Lib.hid hu
              have jX := KX.out.lt
              clear hs3 hu k0 k1 k2 k3 k4
              go_wp2_with fail
              refine wp_region_held_drew (S := (fun w' => ((Instr.lookup 68 (.map (some g)) (.int .i64 (x : Int)) false).run Tryd.prog w' = .ok (.bool false) w' ∧ w'.cell? ⟨w.heap.size, 0, none⟩ = some (.slice (some ⟨b5, o5, none⟩) m c) ∧ w'.cell? ⟨w.heap.size, 1, none⟩ = some (.slice (some ⟨b2, o2, none⟩) k d) ∧ w'.cell? ⟨b2, o2 + x * 5, none⟩ = some (.bool false) ∧ w'.cell? ⟨b2, o2 + x * 5 + 1, none⟩ = some (.int .i64 f.key.space) ∧ w'.cell? ⟨b2, o2 + x * 5 + 2, none⟩ = some (.int .i64 f.key.page)))) (by kernel_rfl) ?r2_hS0 (fun hHeld => ?_)
              case r2_hS0 => exact FK.out _ (Ex.refl _).drew
              refine tk 0 ?_; refine tk 1 ?_
              refine wpAnyH_ready (rs := [2]) (by kernel_rfl) (by simp) ?_
              refine AllReadyH.cons (o := ?r2_o2) ?r2_ho2 (fun K hK => ?_) AllReadyH.nil
              case r2_ho2 => (conv => lhs; whnf; arg 1; whnf)
              refine step_call_gu rfl CEW.out _ _ rfl #[.int .i64 x, .int .i64 k] rfl (CW.out _) ?_; rintro r wb ⟨rfl, rfl⟩; refine ⟨_, rfl, ?_⟩
              refine hK.out _ _ ?r2_hS2 (fun hHeld2 => ?_)
              case r2_hS2 => exact FK.out _ (Ex.refl _).drew
              clear hK K hHeld
              try simp only [Act.put, List.setIfInBounds_toArray, List.set_cons_zero, List.set_cons_succ]
              refine tk 3 ?_; refine tk 4 ?_; refine tk 5 ?_; refine tk 6 ?_; refine tk 7 ?_; refine tk 8 ?_; refine tk 9 ?_; refine tk 10 ?_; refine tk 11 ?_; refine tk 12 ?_; refine tk 13 ?_; refine tk 14 ?_; refine tk 15 ?_; refine tk 16 ?_
              refine tk 17 ?_; refine tk 18 ?_; refine tn 19 ?_; refine tn 20 ?_; refine tn 21 ?_; refine tn 22 ?_; refine tn 23 ?_; refine tn 24 ?_; refine tn 25 ?_; refine tn 26 ?_; refine tn 27 ?_; refine tn 28 ?_; refine tn 29 ?_; refine tn 30 ?_
              refine tk 31 ?_
              refine wpAnyH_done (by kernel_rfl) ?_ _
              go_wp2
              go_ret
              exact HNO.out _ HE.out.drew (not_nochain HA0.out (HTR.out.bad (fun i f' e hf => by
                have e2 : i = x := by omega
                subst e2
                rw [HFX.out] at hf
                injection hf with hf
                rw [← hf]
                exact HU.out) (by omega)))
            rw [hu] at k0
            have HU := Lib.hid hu
            have hkok : keyOk f.key := ((HU3.out x f (getElem?_lt HFX.out) HFX.out).1.2 hu).1
            have FK : Hid (∀ w', Ex wr w' → ((Instr.lookup 68 (.map (some g)) (.int .i64 (x : Int)) false).run Tryd.prog w' = .ok (.bool false) w' ∧ w'.cell? ⟨w.heap.size, 0, none⟩ = some (.slice (some ⟨b5, o5, none⟩) m c) ∧ w'.cell? ⟨w.heap.size, 1, none⟩ = some (.slice (some ⟨b2, o2, none⟩) k d) ∧ w'.cell? ⟨b2, o2 + x * 5, none⟩ = some (.bool true) ∧ w'.cell? ⟨b2, o2 + x * 5 + 1, none⟩ = some (.int .i64 f.key.space) ∧ w'.cell? ⟨b2, o2 + x * 5 + 2, none⟩ = some (.int .i64 f.key.page))) := Lib.hid (fun w' h => ⟨by have := (HIS.out.ex h).look x HWX.out; rwa [decide_eq_false hs3] at this, (KX.out.ex h).c2.1, (KX.out.ex h).c2.2, (h.cell hb2).trans k0, (h.cell hb2).trans k1, (h.cell hb2).trans k2⟩)
            have CH := Lib.hid (fun w => hashI_c f.key (m : Int) w hkok (by omega) (by omega))
            have HHV : Hid (hashK f.key (m : Int) = hashK f.key t.buckets.length) := Lib.hid (by rw [← HM.out])
            generalize hashK f.key (m : Int) = hv at CH HHV
            have HS3 := Lib.hid hs3
            have HB2 := Lib.hid hb2
            have K4 := Lib.hid k4
            have jX := KX.out.lt
            clear hs3 hu k0 k1 k2 k3 k4 hkok
            by_cases ehv : hv = (b : Int)
            · subst ehv
              go_wp2_with fail
              refine wp_region_held_drew (S := (fun w' => ((Instr.lookup 68 (.map (some g)) (.int .i64 (x : Int)) false).run Tryd.prog w' = .ok (.bool false) w' ∧ w'.cell? ⟨w.heap.size, 0, none⟩ = some (.slice (some ⟨b5, o5, none⟩) m c) ∧ w'.cell? ⟨w.heap.size, 1, none⟩ = some (.slice (some ⟨b2, o2, none⟩) k d) ∧ w'.cell? ⟨b2, o2 + x * 5, none⟩ = some (.bool true) ∧ w'.cell? ⟨b2, o2 + x * 5 + 1, none⟩ = some (.int .i64 f.key.space) ∧ w'.cell? ⟨b2, o2 + x * 5 + 2, none⟩ = some (.int .i64 f.key.page)))) (by kernel_rfl) ?r3_hS0 (fun hHeld => ?_)
              case r3_hS0 => exact FK.out _ (Ex.refl _).drew
              refine tk 0 ?_; refine tk 1 ?_
              refine wpAnyH_ready (rs := [2]) (by kernel_rfl) (by simp) ?_
              refine AllReadyH.cons (o := ?r3_o2) ?r3_ho2 (fun K hK => ?_) AllReadyH.nil
              case r3_ho2 => (conv => lhs; whnf; arg 1; whnf)
              refine step_call_gu rfl CEW.out _ _ rfl #[.int .i64 x, .int .i64 k] rfl (CW.out _) ?_; rintro r wb ⟨rfl, rfl⟩; refine ⟨_, rfl, ?_⟩
              refine hK.out _ _ ?r3_hS2 (fun hHeld2 => ?_)
              case r3_hS2 => exact FK.out _ (Ex.refl _).drew
              clear hK K hHeld
              try simp only [Act.put, List.setIfInBounds_toArray, List.set_cons_zero, List.set_cons_succ]
              refine tk 3 ?_; refine tk 4 ?_; refine tk 5 ?_; refine tk 6 ?_; refine tk 7 ?_; refine tk 8 ?_; refine tk 9 ?_; refine tk 10 ?_; refine tk 11 ?_; refine tk 12 ?_; refine tk 13 ?_; refine tk 14 ?_; refine tk 15 ?_; refine tk 16 ?_
              refine tk 17 ?_; refine tk 18 ?_; refine tk 19 ?_; refine tk 20 ?_; refine tk 21 ?_; refine tk 22 ?_; refine tk 23 ?_; refine tk 24 ?_; refine tk 25 ?_; refine tk 26 ?_; refine tk 27 ?_; refine tk 29 ?_
              refine wpAnyH_ready (rs := [28]) (by kernel_rfl) (by simp) ?_
              refine AllReadyH.cons (o := ?r3_o28) ?r3_ho28 (fun K hK => ?_) AllReadyH.nil
              case r3_ho28 => (conv => lhs; whnf; arg 1; whnf)
              refine step_call_gu rfl CEH.out _ _ rfl #[.agg #[.int .i64 f.key.space, .int .i64 f.key.page], .int .i64 m] rfl (CH.out _) ?_; rintro r wa ⟨rfl, hwa⟩; refine ⟨_, rfl, ?_⟩; have hxa := Ex.trans (Ex.refl _).drew hwa
              refine hK.out _ _ ?r3_hS28 (fun hHeld28 => ?_)
              case r3_hS28 => exact FK.out _ hxa
              clear hK K hHeld2
              try simp only [Act.put, List.setIfInBounds_toArray, List.set_cons_zero, List.set_cons_succ]
              refine tk 30 ?_; refine tk 31 ?_
              refine wpAnyH_done (by kernel_rfl) ?_ _
              have HEA := Lib.hid hxa
              have hfew : (pre ++ [x]).length + sumL ls ≤ k := by
                have h1 := (HMU.out.step hxk HS3.out).few
                have h2 := (HMU.out.step hxk HS3.out).2.2.1
                omega
              have hfew2 : sumL ls + pre.length < k := by simp at hfew; omega
              clear hfew hxa hwa
              go_wp2_with (at_mapUpdate; go_must (refine wpList_put_set _ rfl _ _ _ rfl g (sumL ls + pre.length) S3 rfl (HIS.out.ex HEA.out) (by simp only [maxLen]; omega) (x : Int) HS3.out rfl rfl HWX.out ?_); intro w4 hs4 hg4; have HE4 := Lib.hid ((HE.out.trans HEA.out).grown hg4 (fun z hz => by injection hz with hz; have := HG0.out; omega)); have KX4 := Lib.hid ((KX.out.ex HEA.out).grown hg4 (by intro e; injection e with e; have := HG0.out; omega)); obtain ⟨q0, q1⟩ := KX4.out.c2; have jX4 := KX4.out.lt; obtain ⟨b3, o3, f3, e3, hb3, hf3, j0, j1, j2, j3, j4⟩ := (HY.out.ex HE4.out).frame (k := x) (by have := HN.out; omega); injection e3 with e3; injection e3 with e4 e5; subst e4; subst e5; have e6 : f = f3 := (by rw [HFX.out] at hf3; injection hf3); subst e6; clear hf3 j0 j1 j2 j3)
              go_roundw
              case rel => exact ⟨pre ++ [x], f.next, (x : Int) :: S3, rfl, HTR.out.step HFX.out HU.out, (fun i f' hi hf => by
                rcases List.mem_append.1 hi with hi | hi
                · exact HPH.out i f' hi hf
                · have e7 : i = x := by simpa using hi
                  subst e7
                  rw [HFX.out] at hf
                  injection hf with hf
                  rw [← hf]
                  exact HHV.out.symm), HMU.out.step hxk HS3.out, by simpa [Nat.add_assoc] using hs4, (HMP.out.ex HEA.out).kept hg4 (by intro e; injection e with e; have := HG0.out; omega), KX4.out, HE4.out⟩
              case measure => rw [hs4.num, HIS.out.num, HMU.out.2.2.1, List.length_cons, HMU.out.2.2.1]; omega
            · have HEHV := Lib.hid ehv
              go_wp2_with fail
              refine wp_region_held_drew (S := (fun w' => ((Instr.lookup 68 (.map (some g)) (.int .i64 (x : Int)) false).run Tryd.prog w' = .ok (.bool false) w' ∧ w'.cell? ⟨w.heap.size, 0, none⟩ = some (.slice (some ⟨b5, o5, none⟩) m c) ∧ w'.cell? ⟨w.heap.size, 1, none⟩ = some (.slice (some ⟨b2, o2, none⟩) k d) ∧ w'.cell? ⟨b2, o2 + x * 5, none⟩ = some (.bool true) ∧ w'.cell? ⟨b2, o2 + x * 5 + 1, none⟩ = some (.int .i64 f.key.space) ∧ w'.cell? ⟨b2, o2 + x * 5 + 2, none⟩ = some (.int .i64 f.key.page)))) (by kernel_rfl) ?r4_hS0 (fun hHeld => ?_)
              case r4_hS0 => exact FK.out _ (Ex.refl _).drew
              refine tk 0 ?_; refine tk 1 ?_
              refine wpAnyH_ready (rs := [2]) (by kernel_rfl) (by simp) ?_
              refine AllReadyH.cons (o := ?r4_o2) ?r4_ho2 (fun K hK => ?_) AllReadyH.nil
              case r4_ho2 => (conv => lhs; whnf; arg 1; whnf)
              refine step_call_gu rfl CEW.out _ _ rfl #[.int .i64 x, .int .i64 k] rfl (CW.out _) ?_; rintro r wb ⟨rfl, rfl⟩; refine ⟨_, rfl, ?_⟩
              refine hK.out _ _ ?r4_hS2 (fun hHeld2 => ?_)
              case r4_hS2 => exact FK.out _ (Ex.refl _).drew
              clear hK K hHeld
              try simp only [Act.put, List.setIfInBounds_toArray, List.set_cons_zero, List.set_cons_succ]
              refine tk 3 ?_; refine tk 4 ?_; refine tk 5 ?_; refine tk 6 ?_; refine tk 7 ?_; refine tk 8 ?_; refine tk 9 ?_; refine tk 10 ?_; refine tk 11 ?_; refine tk 12 ?_; refine tk 13 ?_; refine tk 14 ?_; refine tk 15 ?_; refine tk 16 ?_
              refine tk 17 ?_; refine tk 18 ?_; refine tk 19 ?_; refine tk 20 ?_; refine tk 21 ?_; refine tk 22 ?_; refine tk 23 ?_; refine tk 24 ?_; refine tk 25 ?_; refine tk 26 ?_; refine tk 27 ?_; refine tk 29 ?_
              refine wpAnyH_ready (rs := [28]) (by kernel_rfl) (by simp) ?_
              refine AllReadyH.cons (o := ?r4_o28) ?r4_ho28 (fun K hK => ?_) AllReadyH.nil
              case r4_ho28 => (conv => lhs; whnf; arg 1; whnf)
              refine step_call_gu rfl CEH.out _ _ rfl #[.agg #[.int .i64 f.key.space, .int .i64 f.key.page], .int .i64 m] rfl (CH.out _) ?_; rintro r wa ⟨rfl, hwa⟩; refine ⟨_, rfl, ?_⟩; have hxa := Ex.trans (Ex.refl _).drew hwa
              refine hK.out _ _ ?r4_hS28 (fun hHeld28 => ?_)
              case r4_hS28 => exact FK.out _ hxa
              clear hK K hHeld2
              try simp only [Act.put, List.setIfInBounds_toArray, List.set_cons_zero, List.set_cons_succ]
              refine tk 30 ?_; refine tk 31 ?_
              refine wpAnyH_done (by kernel_rfl) ?_ _
              go_wp2
              go_ret
              exact HNO.out _ (HE.out.trans hxa) (not_hash_at HA0.out HTR.out HFX.out (by rw [← HHV.out]; exact HEHV.out))
        · obtain rfl : b = m := by omega
          have h1 := HMU.out.2.2.1
          have h2 := HSL.out
          have H1 := Lib.hid h1
          clear h1 h2
          go_wp2_with (at_len; first | (refine wpList_len_set rfl _ rfl g (sumL ls) S2 rfl HIS.out ?_) | (go_must (refine wpList_len_keys rfl _ rfl (w.heap.size + 1) un S rfl HMP.out ?_)))
          go_ret
          refine ⟨ret_bool ?_, HE.out⟩
          rw [Bool.eq_iff_iff, tableV_iff, tableOk_end HH.out HU3.out (HM.out ▸ HBU.out), ← HUN.out]
          have h1 := H1.out
          have h2 := HSL.out
          simp at h1 ⊢
          omega
end Go.Proofs.YtbdlpbladpppjaaDoor
/- A table hashed anew: impl's RehashTable. -/
namespace Go.Proofs.YtbdlpbladpppjaaDoor
open Go.ChangeShapes Go.WideShapes Go.ChangeAt Go.RowKit
open Rec (sz cs)
set_option linter.unusedVariables false
set_option maxRecDepth 100000

def LoopI (w w2 : World) (gb gf fl nb c1 d1 : Nat) (rb rf : List Value) (rl : Nat → TableD) (i : Value) (wr : World) : Prop := ∃ k : Nat, i = .int .i64 k ∧ k ≤ fl ∧ Bk 3 wr gb (rl k).buckets rb ∧ Bk 47 wr gf (rl k).frames rf ∧ Chg (w.heap.size + 2) w2.heap.size w2 wr ∧ Blk wr w2.heap.size 26 [.slice (some ⟨gb, 0, none⟩) nb c1, .slice (some ⟨gf, 0, none⟩) fl d1]

set_option maxHeartbeats 8000000 in
theorem rehashI_c (t : TableD) (A : Option Addr) (c : Nat) (B : Option Addr) (d : Nat) (n : Int) (w : World) (hx : Rd w A t.buckets) (hy : Rd w B t.frames) (hb : t.buckets.length ≤ 1048576) (hm : t.frames.length ≤ 1048576) (hv : FreeV w) :
    Calls Tryd.prog 5 #[.agg #[.slice A t.buckets.length c, .slice B t.frames.length d], .int .i64 n] w (TabOr (rehashT t n) w) := by
  have C1 := Lib.hid (fun w' (h : Ex w w') => newTableI_c t.frames.length n w' (hv.ex h))
  unfold MadeTable at C1
  have C2 := Lib.hid (fun w' (h : Ex w w') => tableI_c t A c B d w' (hx.ex h) (hy.ex h) hb hm (hv.ex h))
  have HY := Lib.hid hy
  by_cases hbad : TableOk t ∧ (1 ≤ n ∧ n ≤ 16)
  rotate_left
  · have HN : rehashT t n = (noTable, false) := by unfold rehashT; rw [if_neg hbad]
    rw [HN]
    clear HN
    by_cases hok : TableOk t
    · have e : newTable t.frames.length n = (noTable, false) := by unfold newTable; rw [if_neg (fun h => hbad ⟨hok, h.2⟩)]
      rw [tableV_yes hok] at C2
      obtain ⟨q, e'⟩ : ∃ q, newTable t.frames.length n = (q, false) := ⟨_, e⟩
      rw [e'] at C1
      clear e'
      dsimp only at C1
      clear e hok hx hy hb hm hv HY hbad
      generalize t.buckets.length = m at C2 C1 ⊢
      generalize t.frames.length = fl at C2 C1 ⊢
      go_enter Tryd.func5, Tryd.ntmps5
      go_wp2_with fail
      refine name_calls ?_; intro v1 hv1
      have X1 : Hid (Chg (0) (0) w v1) := Lib.hid (by rw [hv1]; repeat' (first | with_reducible exact Chg.refl _ _ _ | with_reducible refine Chg.alloc ?_ _ | with_reducible refine Chg.drew ?_ | with_reducible refine Chg.set ?_ (by omega) _))
      have t1 : w.heap.size ≤ v1.heap.size := X1.out.size
      have Ev1 : Hid (Ex w v1) := Lib.hid ((Ex.refl w).chg X1.out (by omega))
      have KX : Hid (Blk v1 (w.heap.size) 26 [.slice A m c, .slice B fl d]) := Lib.hid (by rw [hv1]; repeat' (first | with_reducible exact Blk.new_at _ _ _ (by simp) | with_reducible refine Blk.alloc ?_ _ | with_reducible refine Blk.drew ?_ | with_reducible refine Blk.far ?_ (by simp; omega) _))
      have lX : w.heap.size < v1.heap.size := KX.out.lt
      have KR : Hid (Blk v1 (w.heap.size + 1) 26 [.slice none 0 0, .slice none 0 0]) := Lib.hid (by rw [hv1]; repeat' (first | with_reducible exact Blk.new_at _ _ _ (by simp) | with_reducible refine Blk.alloc ?_ _ | with_reducible refine Blk.drew ?_ | with_reducible refine Blk.far ?_ (by simp; omega) _))
      have lR : w.heap.size + 1 < v1.heap.size := KR.out.lt
      clear hv1
      refine (C2.out _ Ev1.out).mono ?_; rintro r w1 ⟨rfl, hb1⟩
      have Y1 : Hid (Chg 0 0 v1 w1) := Lib.hid (Chg.of_ex hb1)
      have s1 : v1.heap.size ≤ w1.heap.size := Y1.out.size
      have Ew1 : Hid (Ex w w1) := Lib.hid (Ev1.out.chg Y1.out (by omega))
      clear hb1
      replace KX := Lib.hid (KX.out.chg Y1.out (by omega))
      replace KR := Lib.hid (KR.out.chg Y1.out (by omega))
      obtain ⟨qX0, qX1⟩ := KX.out.c2
      have jX := KX.out.lt
      obtain ⟨qR0, qR1⟩ := KR.out.c2
      have jR := KR.out.lt
      have zR := KR.out.frozen
      go_wp2_with fail
      refine name_calls ?_; intro v2 hv2
      have X2 : Hid (Chg (0) (0) w1 v2) := Lib.hid (by rw [hv2]; repeat' (first | with_reducible exact Chg.refl _ _ _ | with_reducible refine Chg.alloc ?_ _ | with_reducible refine Chg.drew ?_ | with_reducible refine Chg.set ?_ (by omega) _))
      have t2 : w1.heap.size ≤ v2.heap.size := X2.out.size
      have Ev2 : Hid (Ex w v2) := Lib.hid (Ew1.out.chg X2.out (by omega))
      clear qX0 qX1 jX
      clear qR0 qR1 jR zR
      replace KX := Lib.hid (KX.out.chg X2.out (by omega))
      replace KR := Lib.hid (KR.out.chg X2.out (by omega))
      clear hv2
      refine (C1.out _ Ev2.out).mono ?_; rintro r w2 ⟨A1, c1, B1, d1, m1, rfl, hf1, hf1b, hhra1, hhm1, hhm2, hb2⟩
      have Y2 : Hid (Chg 0 0 v2 w2) := Lib.hid (Chg.of_ex hb2)
      have s2 : v2.heap.size ≤ w2.heap.size := Y2.out.size
      have Ew2 : Hid (Ex w w2) := Lib.hid (Ev2.out.chg Y2.out (by omega))
      clear hb2
      replace KX := Lib.hid (KX.out.chg Y2.out (by omega))
      replace KR := Lib.hid (KR.out.chg Y2.out (by omega))
      have HF1 := Lib.hid hf1; clear hf1
      have WHF1 := Lib.hid HF1.out.row
      have HF1B := Lib.hid hf1b; clear hf1b
      have WHF1B := Lib.hid HF1B.out.row
      have HHRA1 := Lib.hid hhra1; clear hhra1
      have HHM1 := Lib.hid hhm1; clear hhm1
      have HHM2 := Lib.hid hhm2; clear hhm2
      obtain ⟨qX0, qX1⟩ := KX.out.c2
      have jX := KX.out.lt
      obtain ⟨qR0, qR1⟩ := KR.out.c2
      have jR := KR.out.lt
      have zR := KR.out.frozen
      go_wp2
      exact bodyPost_ret (v := .tuple #[.agg #[.slice none 0 0, .slice none 0 0], .bool false]) (by simp [results, Tryd.results5, go_sem, *]) rfl
        ⟨none, 0, none, 0, rfl, Fr.none_ _ _ _ _, Fr.none_ _ _ _ _, (by repeat' (first | with_reducible exact Ew2.out | with_reducible refine Ex.alloc ?_ _ | with_reducible refine Ex.drew ?_ | with_reducible refine Ex.put ?_ (by omega) _))⟩
    · rw [tableV_no hok] at C2
      clear hok hx hy hb hm hv HY hbad
      generalize t.buckets.length = m at C2 C1 ⊢
      generalize t.frames.length = fl at C2 C1 ⊢
      go_enter Tryd.func5, Tryd.ntmps5
      go_wp2_with fail
      refine name_calls ?_; intro v1 hv1
      have X1 : Hid (Chg (0) (0) w v1) := Lib.hid (by rw [hv1]; repeat' (first | with_reducible exact Chg.refl _ _ _ | with_reducible refine Chg.alloc ?_ _ | with_reducible refine Chg.drew ?_ | with_reducible refine Chg.set ?_ (by omega) _))
      have t1 : w.heap.size ≤ v1.heap.size := X1.out.size
      have Ev1 : Hid (Ex w v1) := Lib.hid ((Ex.refl w).chg X1.out (by omega))
      have KX : Hid (Blk v1 (w.heap.size) 26 [.slice A m c, .slice B fl d]) := Lib.hid (by rw [hv1]; repeat' (first | with_reducible exact Blk.new_at _ _ _ (by simp) | with_reducible refine Blk.alloc ?_ _ | with_reducible refine Blk.drew ?_ | with_reducible refine Blk.far ?_ (by simp; omega) _))
      have lX : w.heap.size < v1.heap.size := KX.out.lt
      have KR : Hid (Blk v1 (w.heap.size + 1) 26 [.slice none 0 0, .slice none 0 0]) := Lib.hid (by rw [hv1]; repeat' (first | with_reducible exact Blk.new_at _ _ _ (by simp) | with_reducible refine Blk.alloc ?_ _ | with_reducible refine Blk.drew ?_ | with_reducible refine Blk.far ?_ (by simp; omega) _))
      have lR : w.heap.size + 1 < v1.heap.size := KR.out.lt
      clear hv1
      refine (C2.out _ Ev1.out).mono ?_; rintro r w1 ⟨rfl, hb1⟩
      have Y1 : Hid (Chg 0 0 v1 w1) := Lib.hid (Chg.of_ex hb1)
      have s1 : v1.heap.size ≤ w1.heap.size := Y1.out.size
      have Ew1 : Hid (Ex w w1) := Lib.hid (Ev1.out.chg Y1.out (by omega))
      clear hb1
      replace KX := Lib.hid (KX.out.chg Y1.out (by omega))
      replace KR := Lib.hid (KR.out.chg Y1.out (by omega))
      obtain ⟨qX0, qX1⟩ := KX.out.c2
      have jX := KX.out.lt
      obtain ⟨qR0, qR1⟩ := KR.out.c2
      have jR := KR.out.lt
      have zR := KR.out.frozen
      go_wp2
      exact bodyPost_ret (v := .tuple #[.agg #[.slice none 0 0, .slice none 0 0], .bool false]) (by simp [results, Tryd.results5, go_sem, *]) rfl
        ⟨none, 0, none, 0, rfl, Fr.none_ _ _ _ _, Fr.none_ _ _ _ _, (by repeat' (first | with_reducible exact Ew1.out | with_reducible refine Ex.alloc ?_ _ | with_reducible refine Ex.drew ?_ | with_reducible refine Ex.put ?_ (by omega) _))⟩
  · have HN : rehashT t n = (relink t.frames (newTable t.frames.length n).1 t.frames.length, true) := by unfold rehashT; rw [if_pos hbad]
    obtain ⟨hok, hn⟩ := hbad
    have few := hok.1
    unfold TableHead at few
    obtain ⟨e2, hqok, hlf, hlb⟩ := newTable_ok (f := t.frames.length) (b := n) (by omega) hn
    rw [Int.toNat_natCast] at hlf
    rw [tableV_yes hok] at C2
    have HL : Hid (∀ k, (relink t.frames (newTable t.frames.length n).1 k).frames.length = t.frames.length ∧ (relink t.frames (newTable t.frames.length n).1 k).buckets.length = n.toNat) := Lib.hid (fun k => by
      have := relink_len t.frames (newTable t.frames.length n).1 k
      rw [hlf, hlb] at this
      exact this)
    have KEY : Hid (∀ (k : Nat) (f : FrameD), t.frames[k]? = some f → f.used = true → keyOk f.key) := Lib.hid (fun k f hf hu => ((hok.2.1 k f (getElem?_lt hf) hf).1.2 hu).1)
    rw [HN]
    clear HN
    have R0 : Hid (relink t.frames (newTable t.frames.length n).1 0 = (newTable t.frames.length n).1) := Lib.hid rfl
    have RY : Hid (∀ (k : Nat) (f : FrameD), t.frames[k]? = some f → f.used = true → relink t.frames (newTable t.frames.length n).1 (k + 1) = linkT (relink t.frames (newTable t.frames.length n).1 k) f.key k f.rights) := Lib.hid (fun k f hf hu => by
      rw [relink, getD_of hf, if_pos hu])
    have RN : Hid (∀ (k : Nat) (f : FrameD), t.frames[k]? = some f → f.used = false → relink t.frames (newTable t.frames.length n).1 (k + 1) = relink t.frames (newTable t.frames.length n).1 k) := Lib.hid (fun k f hf hu => by
      rw [relink, getD_of hf, if_neg (by rw [hu]; decide)])
    generalize relink t.frames (newTable t.frames.length n).1 = rl at HL R0 RY RN ⊢
    generalize newTable t.frames.length n = q at C1 R0 e2
    obtain ⟨q, bq⟩ := q
    dsimp only at C1 R0 e2
    subst e2
    obtain ⟨xs, ys⟩ := t
    dsimp only at C1 C2 HY HL KEY RY RN few ⊢
    have hnb : 1 ≤ n.toNat ∧ n.toNat ≤ 16 := by omega
    have e1 : q.buckets.length = n.toNat := by rw [← R0.out]; exact (HL.out 0).2
    have e3 : q.frames.length = ys.length := by rw [← R0.out]; exact (HL.out 0).1
    rw [e1, e3] at C1
    clear hx hy hok hqok hlf hlb hn hb hm hv
    go_enter Tryd.func5, Tryd.ntmps5
    go_wp2_with fail
    refine name_calls ?_; intro v1 hv1
    have X1 : Hid (Chg (0) (0) w v1) := Lib.hid (by rw [hv1]; repeat' (first | with_reducible exact Chg.refl _ _ _ | with_reducible refine Chg.alloc ?_ _ | with_reducible refine Chg.drew ?_ | with_reducible refine Chg.set ?_ (by omega) _))
    have t1 : w.heap.size ≤ v1.heap.size := X1.out.size
    have Ev1 : Hid (Ex w v1) := Lib.hid ((Ex.refl w).chg X1.out (by omega))
    have KX : Hid (Blk v1 (w.heap.size) 26 [.slice A xs.length c, .slice B ys.length d]) := Lib.hid (by rw [hv1]; repeat' (first | with_reducible exact Blk.new_at _ _ _ (by simp) | with_reducible refine Blk.alloc ?_ _ | with_reducible refine Blk.drew ?_ | with_reducible refine Blk.far ?_ (by simp; omega) _))
    have lX : w.heap.size < v1.heap.size := KX.out.lt
    have KR : Hid (Blk v1 (w.heap.size + 1) 26 [.slice none 0 0, .slice none 0 0]) := Lib.hid (by rw [hv1]; repeat' (first | with_reducible exact Blk.new_at _ _ _ (by simp) | with_reducible refine Blk.alloc ?_ _ | with_reducible refine Blk.drew ?_ | with_reducible refine Blk.far ?_ (by simp; omega) _))
    have lR : w.heap.size + 1 < v1.heap.size := KR.out.lt
    clear hv1
    refine (C2.out _ Ev1.out).mono ?_; rintro r w1 ⟨rfl, hb1⟩
    have Y1 : Hid (Chg 0 0 v1 w1) := Lib.hid (Chg.of_ex hb1)
    have s1 : v1.heap.size ≤ w1.heap.size := Y1.out.size
    have Ew1 : Hid (Ex w w1) := Lib.hid (Ev1.out.chg Y1.out (by omega))
    clear hb1
    replace KX := Lib.hid (KX.out.chg Y1.out (by omega))
    replace KR := Lib.hid (KR.out.chg Y1.out (by omega))
    obtain ⟨qX0, qX1⟩ := KX.out.c2
    have jX := KX.out.lt
    obtain ⟨qR0, qR1⟩ := KR.out.c2
    have jR := KR.out.lt
    have zR := KR.out.frozen
    go_wp2_with fail
    refine name_calls ?_; intro v2 hv2
    have X2 : Hid (Chg (0) (0) w1 v2) := Lib.hid (by rw [hv2]; repeat' (first | with_reducible exact Chg.refl _ _ _ | with_reducible refine Chg.alloc ?_ _ | with_reducible refine Chg.drew ?_ | with_reducible refine Chg.set ?_ (by omega) _))
    have t2 : w1.heap.size ≤ v2.heap.size := X2.out.size
    have Ev2 : Hid (Ex w v2) := Lib.hid (Ew1.out.chg X2.out (by omega))
    clear qX0 qX1 jX
    clear qR0 qR1 jR zR
    replace KX := Lib.hid (KX.out.chg X2.out (by omega))
    replace KR := Lib.hid (KR.out.chg X2.out (by omega))
    clear hv2
    refine (C1.out _ Ev2.out).mono ?_; rintro r w2 ⟨A1, c1, B1, d1, m1, rfl, hf1, hf1b, hhra1, hhm1, hhm2, hb2⟩
    have Y2 : Hid (Chg 0 0 v2 w2) := Lib.hid (Chg.of_ex hb2)
    have s2 : v2.heap.size ≤ w2.heap.size := Y2.out.size
    have Ew2 : Hid (Ex w w2) := Lib.hid (Ev2.out.chg Y2.out (by omega))
    clear hb2
    replace KX := Lib.hid (KX.out.chg Y2.out (by omega))
    replace KR := Lib.hid (KR.out.chg Y2.out (by omega))
    have HF1 := Lib.hid hf1; clear hf1
    have WHF1 := Lib.hid HF1.out.row
    have HF1B := Lib.hid hf1b; clear hf1b
    have WHF1B := Lib.hid HF1B.out.row
    have HHRA1 := Lib.hid hhra1; clear hhra1
    have HHM1 := Lib.hid hhm1; clear hhm1
    have HHM2 := Lib.hid hhm2; clear hhm2
    obtain ⟨qX0, qX1⟩ := KX.out.c2
    have jX := KX.out.lt
    obtain ⟨qR0, qR1⟩ := KR.out.c2
    have jR := KR.out.lt
    have zR := KR.out.frozen
    obtain ⟨gb, rb, rfl, hgb, hbb, hrb⟩ := HF1.out.open_ (k := 0) (by omega)
    obtain ⟨gf, rf, rfl, hgf, hbf, hrf⟩ := HF1B.out.open_ (k := 0) (by omega)
    have hgb2 := Blk.lt hbb
    have hgf2 := Blk.lt hbf
    have hm1 := HHM1.out
    have HCC := Lib.hid (And.intro HF1.out.cap HF1B.out.cap)
    have HCL := Lib.hid (And.intro HF1.out.le HF1B.out.le)
    have HRB := Lib.hid (And.intro hrb hrf)
    rw [← R0.out] at hbb hbf
    have HST : Hid (LoopI w w2 gb gf ys.length n.toNat c1 d1 rb rf rl (.int .i64 (0 : Nat)) (w2.alloc (.cells #[.slice (some ⟨gb, 0, none⟩) n.toNat c1, .slice (some ⟨gf, 0, none⟩) ys.length d1] 26))) := Lib.hid ⟨0, rfl, Nat.zero_le _, Blk.alloc hbb _, Blk.alloc hbf _, (Chg.refl _ _ _).alloc _, Blk.new _ _ _⟩
    go_wp2
    go_loopw [28] (fun i wr => LoopI w w2 gb gf ys.length n.toNat c1 d1 rb rf rl i wr) (fun i _ => ys.length - (intOf i).toNat)
    case atStart => exact HST.out
    case round =>
      clear HST
      obtain ⟨k, rfl, hk, hbb', hbf', hch, hkn⟩ := hrel
      have HBB := Lib.hid hbb'
      have HBF := Lib.hid hbf'
      have HCH := Lib.hid hch
      have KN := Lib.hid hkn
      have hsz := HCH.out.size
      obtain ⟨y0, y1⟩ := KN.out.c2
      have ol := KN.out.lt
      have KX' := Lib.hid (KX.out.chg hch (by omega))
      have KR' := Lib.hid (KR.out.chg hch (by omega))
      obtain ⟨x0, x1⟩ := KX'.out.c2
      have EW : Hid (Ex w wr) := Lib.hid (Ew2.out.chg hch (by omega))
      have HLK := HL.out k
      clear hbb' hbf' hch hkn hbb hbf qX0 qX1 jX qR0 qR1 jR KX KR
      by_cases hlt : k < ys.length
      rotate_left
      · have hk0 : k = ys.length := by omega
        subst hk0
        obtain ⟨r0, r1⟩ := KR'.out.c2
        have jR := KR'.out.lt
        have zR' := KR'.out.frozen
        have hgr : gb ≠ w.heap.size + 1 := by omega
        have hgr' : gf ≠ w.heap.size + 1 := by omega
        go_wp2
        refine bodyPost_ret (v := .tuple #[.agg #[.slice (some ⟨gb, 0, none⟩) n.toNat c1, .slice (some ⟨gf, 0, none⟩) ys.length d1], .bool true]) (by simp [results, Tryd.results5, go_sem, *]) rfl
          ⟨some ⟨gb, 0, none⟩, c1, some ⟨gf, 0, none⟩, d1, by rw [HLK.1, HLK.2], ?_, ?_, (by repeat' (first | with_reducible exact EW.out | with_reducible refine Ex.alloc ?_ _ | with_reducible refine Ex.drew ?_ | with_reducible refine Ex.put ?_ (by omega) _))⟩
        · refine Fr.close (rest := rb) ?_ (by omega) (by rw [HLK.2, ← e1]; exact HRB.out.1) (by rw [HLK.2, ← e1]; exact HCL.out.1) HCC.out.1
          repeat' (first | with_reducible exact HBB.out | with_reducible refine Bk.drew ?_ | with_reducible refine Bk.far ?_ hgr _)
        · refine Fr.close (rest := rf) ?_ (by omega) (by rw [HLK.1, ← e3]; exact HRB.out.2) (by rw [HLK.1, ← e3]; exact HCL.out.2) HCC.out.2
          repeat' (first | with_reducible exact HBF.out | with_reducible refine Bk.drew ?_ | with_reducible refine Bk.far ?_ hgr' _)
      obtain ⟨b2, o2, f, rfl, hb2', hf, k0, k1, k2, k3, k4⟩ := HY.out.frame hlt
      replace k0 := (EW.out.cell hb2').trans k0
      replace k1 := (EW.out.cell hb2').trans k1
      replace k2 := (EW.out.cell hb2').trans k2
      replace k3 := (EW.out.cell hb2').trans k3
      replace k4 := (EW.out.cell hb2').trans k4
      have hb2 : b2 < wr.heap.size := by omega
      have hi' : ¬ ((ys.length : Int) ≤ (k : Int)) := by omega
      have hi2 : (k : Int) < (ys.length : Int) := by omega
      have hi0 : ¬ (k : Int) < 0 := by omega
      have HF := Lib.hid hf
      cases hu : f.used
      · rw [hu] at k0
        have HE := Lib.hid (RN.out k f hf hu)
        clear hf hu
        go_wp2
        go_roundw
        case rel => exact ⟨k + 1, by go_num, by omega, by rw [HE.out]; exact Blk.alloc HBB.out _, by rw [HE.out]; exact Blk.alloc HBF.out _, HCH.out.alloc _, KN.out.alloc _⟩
        case measure => simp [intOf]; omega
      · rw [hu] at k0
        have HE := Lib.hid (RY.out k f hf hu)
        have hkey := KEY.out k f hf hu
        have CM : Hid (∀ v, Bk 3 v gb (rl k).buckets rb → Bk 47 v gf (rl k).frames rf → Calls Tryd.prog 16 #[.agg #[.slice (some ⟨gb, 0, none⟩) n.toNat c1, .slice (some ⟨gf, 0, none⟩) ys.length d1], .agg #[.int .i64 f.key.space, .int .i64 f.key.page], .int .i64 k, .int .i64 f.rights] v (LinkP gb gf (w.heap.size + 2) w2.heap.size (rl (k + 1)) rb rf v)) := Lib.hid (fun v h1 h2 => by
          have h := linkI_c gb gf (w.heap.size + 2) w2.heap.size (rl k).buckets (rl k).frames rb rf c1 d1 f.key k f.rights v h1 h2 (by omega) (by omega) (by omega) (by omega) (by omega) (by omega) hkey
          rw [HLK.1, HLK.2] at h
          rw [HE.out]
          exact h)
        clear hf hu hkey
        go_wp2_with fail
        refine (CM.out _ (by first | exact Blk.alloc HBB.out _ | exact (Blk.alloc HBB.out _).drew) (by first | exact Blk.alloc HBF.out _ | exact (Blk.alloc HBF.out _).drew)).mono ?_
        rintro r w5 ⟨rfl, h5, h5b, hc5⟩
        have HB5 := Lib.hid h5
        have HF5 := Lib.hid h5b
        have HC5 := Lib.hid hc5
        clear h5 h5b hc5
        go_wp2
        go_roundw
        case rel => exact ⟨k + 1, by go_num, by omega, HB5.out, HF5.out, Chg.trans (by repeat' (first | with_reducible exact HCH.out | with_reducible refine Chg.drew ?_ | with_reducible refine Chg.alloc ?_ _)) HC5.out, Blk.chg (by repeat' (first | with_reducible exact KN.out | with_reducible refine Blk.drew ?_ | with_reducible refine Blk.alloc ?_ _)) HC5.out (by omega)⟩
        case measure => simp [intOf]; omega
end Go.Proofs.YtbdlpbladpppjaaDoor
/- The chain of a bucket, as impl walks it. -/
namespace Go.Proofs.YtbdlpbladpppjaaDoor
open Go.ChangeShapes Go.WideShapes Go.ChangeAt Go.RowKit
open Rec (sz cs)
set_option linter.unusedVariables false
set_option maxRecDepth 100000

theorem clipInt_c (A : Option Addr) (n c : Nat) (w : World) (hc : n ≤ c) (hc2 : c ≤ maxLen) :
    Calls Tryd.prog 43 #[.slice A n c] w fun r w' => r = .returned (.slice A n n) ∧ w = w' := by
  have h : (n : Int) ≤ c := by omega
  go_enter Tryd.func43, Tryd.ntmps43
  go_wp2
  go_ret
  exact ⟨rfl, rfl⟩

def ChainIs (l0 : List Nat) (w : World) (r : Ending) (w' : World) : Prop := ∃ A' : Option Addr, r = .returned (.slice A' l0.length l0.length) ∧ Rd w' A' (nums l0) ∧ Ex w w'

set_option maxHeartbeats 4000000 in
theorem chainI_c (t : TableD) (A : Option Addr) (c : Nat) (B : Option Addr) (d b : Nat) (a0 : Int) (l0 : List Nat) (w : World) (hx : Rd w A t.buckets) (hy : Rd w B t.frames) (hb : t.buckets[b]? = some a0) (hl0 : Chain t.frames a0 l0) (hn : t.buckets.length ≤ 1048576) (hm : t.frames.length ≤ 1048576) (hll : l0.length ≤ 1048576) :
    Calls Tryd.prog 23 #[.agg #[.slice A t.buckets.length c, .slice B t.frames.length d], .int .i64 b] w (ChainIs l0 w) := by
  obtain ⟨i0, hi, hz0, hz1, hz2⟩ := info_parts infoMInt
  have HX := Lib.hid hx
  have HY := Lib.hid hy
  have hbl : b < t.buckets.length := getElem?_lt hb
  obtain ⟨n, hn1⟩ : ∃ n, n = t.frames.length := ⟨_, rfl⟩
  obtain ⟨m, hm1⟩ : ∃ m, m = t.buckets.length := ⟨_, rfl⟩
  have HN := Lib.hid hn1
  have HM := Lib.hid hm1
  rw [← hn1] at hm ⊢
  rw [← hm1] at hn hbl ⊢
  obtain ⟨b1, o1, a1, rfl, hb1, ha1, g0⟩ := HX.out.int (k := b) (by have := HM.out; omega)
  have e : a1 = a0 := by rw [hb] at ha1; injection ha1 with e; exact e.symm
  subst e
  have HL0 := Lib.hid hl0
  clear hx hy hb hn1 hm1 ha1 hl0
  go_enter Tryd.func23, Tryd.ntmps23
  go_wp2
  clear g0
  go_loopw [5, 6] (fun q i wr => ∃ (pre l2 : List Nat) (a : Int) (A' : Option Addr) (c' : Nat), i = .int .i64 a ∧ q = .slice A' pre.length c' ∧ Fr 3 wr (w.heap.size + 1) A' c' (nums pre) ∧ l0 = pre ++ l2 ∧ Chain t.frames a l2 ∧ Blk wr w.heap.size 26 [.slice (some ⟨b1, o1, none⟩) m c, .slice B n d] ∧ Ex w wr ∧ w.heap.size + 1 ≤ wr.heap.size) (fun q _ _ => l0.length - lenOf q)
  case atStart => exact ⟨[], l0, a1, _, 0, rfl, rfl, Fr.none_ _ _ _ _, rfl, HL0.out, Blk.new _ _ _, (Ex.refl _).alloc _, by simp⟩
  case round =>
    obtain ⟨pre, l2, a, A', c', rfl, rfl, hf, hl, hch, hk, hex, hsz⟩ := hrel
    have HF := Lib.hid hf
    have HLQ := Lib.hid hl
    have KX := Lib.hid hk
    have HE := Lib.hid hex
    have HSZ := Lib.hid hsz
    have hlen : l0.length = pre.length + l2.length := by rw [hl]; simp
    clear hf hl hk hex hsz
    obtain ⟨q0, q1⟩ := KX.out.c2
    have jX := KX.out.lt
    have CL := Lib.hid (fun w h => clipInt_c A' pre.length c' w h HF.out.cap)
    rcases hch.inv with ⟨ha, hl2⟩ | ⟨i, f, l3, ha, hl2, hfi, hu, hc3⟩
    · subst ha hl2
      have hle : pre.length ≤ c' := by have := HF.out.le; rw [nums_len] at this; exact this
      have e : l0 = pre := by rw [HLQ.out]; simp
      go_wp2_with fail
      refine (CL.out _ hle).mono ?_
      rintro r w5 ⟨rfl, rfl⟩
      go_wp2
      go_ret
      rw [e]
      exact ⟨A', rfl, by first | exact HF.out.rd | exact HF.out.rd.drew, by first | exact HE.out | exact HE.out.drew⟩
    subst ha hl2
    have HC3 := Lib.hid hc3
    obtain ⟨b2, o2, f', rfl, hb2, hfi', k0, k1, k2, k3, k4⟩ := (HY.out.ex HE.out).frame (k := i) (getElem?_lt hfi)
    have hin : i < n := by have := getElem?_lt hfi; have := HN.out; omega
    have HFI := Lib.hid hfi
    have hne : ((i : Int) != -1) = true := by simp
    simp only [List.length_cons] at hlen
    have h63 : pre.length + 1 ≤ maxLen := by simp [maxLen]; omega
    have hby : (pre.length + 1) * 8 ≤ 140737488355328 := by omega
    have HLN := Lib.hid (nums_len pre).symm
    have HXE : Hid (Rd wr (some ⟨b2, o2, none⟩) t.frames) := Lib.hid (HY.out.ex HE.out)
    clear hfi hfi' hu hc3 hch CL
    go_wp2_with (at_builtin; refine wpList_append_fr (α := Int) rfl _ _ 23 rfl 3 i0 _ 8 (w.heap.size + 1) Tryd.underlying23 hi hz0 hz1 hz2 rfl A' c' pre.length (nums pre) HLN.out rfl (HF.out.alloc _) _ 1 1 [(i : Int)] rfl rfl (Bk.new wr 3 [(i : Int)]).rd h63 hby (Nat.le_trans HSZ.out (by simp)) ?_)
    intro A6 c6 w6 happ
    have HAP := Lib.hid happ
    have KX6 : Hid (Blk w6 w.heap.size 26 [.slice (some ⟨b1, o1, none⟩) m c, .slice (some ⟨b2, o2, none⟩) n d]) := Lib.hid ((KX.out.alloc _).grown HAP.out.grown (fun e => by have := HF.out.row _ e.symm; omega))
    have HE6 : Hid (Ex w w6) := Lib.hid ((HE.out.alloc _).grown HAP.out.grown (fun g hg => by have := HF.out.row _ hg; omega))
    have hw6 : wr.heap.size ≤ w6.heap.size := by have := HAP.out.grown.size; simp at this; omega
    clear happ q0 q1 jX k0 k1 k2 k3 k4
    obtain ⟨q0, q1⟩ := KX6.out.c2
    have jX := KX6.out.lt
    obtain ⟨b3, o3, g, e3, hb3, hgi, k0, k1, k2, k3, k4⟩ := (HY.out.ex HE6.out).frame (k := i) (by have := HN.out; omega)
    cases e3
    have e : g = f := by rw [HFI.out] at hgi; injection hgi with e; exact e.symm
    subst e
    clear hgi
    go_wp2
    go_roundw
    case rel => exact ⟨pre ++ [i], l3, g.next, A6, c6, rfl, by simp, by rw [nums_snoc]; exact HAP.out.fr, by rw [HLQ.out]; simp, HC3.out, KX6.out, HE6.out, by have := HSZ.out; omega⟩
    case measure => simp [lenOf]; omega
end Go.Proofs.YtbdlpbladpppjaaDoor
/- The chain of bucket 0 of a valid table: impl's ChainOf. -/
namespace Go.Proofs.YtbdlpbladpppjaaDoor
open Go.ChangeShapes Go.WideShapes Go.ChangeAt Go.RowKit
open Rec (sz cs)
set_option linter.unusedVariables false
set_option maxRecDepth 100000

def ChainTwo (l0 : List Nat) (w : World) (r : Ending) (w' : World) : Prop := ∃ A' : Option Addr, r = .returned (.tuple #[.slice A' l0.length l0.length, .bool true]) ∧ Rd w' A' (nums l0) ∧ Ex w w'

set_option maxHeartbeats 4000000 in
theorem chainOfI_c (t : TableD) (A : Option Addr) (c : Nat) (B : Option Addr) (d : Nat) (a0 : Int) (l0 : List Nat) (w : World) (hx : Rd w A t.buckets) (hy : Rd w B t.frames) (hok : TableOk t) (hb : t.buckets[0]? = some a0) (hl0 : Chain t.frames a0 l0) (hll : l0.length ≤ 1048576) (hv : FreeV w) :
    Calls Tryd.prog 8 #[.agg #[.slice A t.buckets.length c, .slice B t.frames.length d], .int .i64 0] w (ChainTwo l0 w) := by
  have few := hok.1
  unfold TableHead at few
  have C1 := Lib.hid (fun w' (h : Ex w w') => tableI_c t A c B d w' (hx.ex h) (hy.ex h) (by omega) (by omega) (hv.ex h))
  rw [tableV_yes hok] at C1
  have C3 : Hid (∀ w', Ex w w' → Calls Tryd.prog 23 #[.agg #[.slice A t.buckets.length c, .slice B t.frames.length d], .int .i64 0] w' (ChainIs l0 w')) := Lib.hid (fun w' h => chainI_c t A c B d 0 a0 l0 w' (hx.ex h) (hy.ex h) hb hl0 (by omega) (by omega) hll)
  unfold ChainIs at C3
  have C2 : Hid (∀ w, Calls Tryd.prog 22 #[.int .i64 0, .int .i64 (t.buckets.length : Int)] w (fun r w' => r = .returned (.bool true) ∧ Ex w w')) := Lib.hid (fun w => (within_c 0 (t.buckets.length : Int) w).mono (by rintro r w' ⟨h, rfl⟩; rw [inB_true.2 ⟨by omega, by omega⟩] at h; exact ⟨h, Ex.refl _⟩))
  generalize t.buckets.length = m at C1 C2 C3 ⊢
  generalize t.frames.length = n at C1 C3 ⊢
  clear hx hy hok hb hl0 hv few
  go_enter Tryd.func8, Tryd.ntmps8
  go_wp2_with fail
  refine name_calls ?_; intro v1 hv1
  have X1 : Hid (Chg (0) (0) w v1) := Lib.hid (by rw [hv1]; repeat' (first | with_reducible exact Chg.refl _ _ _ | with_reducible refine Chg.alloc ?_ _ | with_reducible refine Chg.drew ?_ | with_reducible refine Chg.set ?_ (by omega) _))
  have t1 : w.heap.size ≤ v1.heap.size := X1.out.size
  have Ev1 : Hid (Ex w v1) := Lib.hid ((Ex.refl w).chg X1.out (by omega))
  have KX : Hid (Blk v1 (w.heap.size) 26 [.slice A m c, .slice B n d]) := Lib.hid (by rw [hv1]; repeat' (first | with_reducible exact Blk.new_at _ _ _ (by simp) | with_reducible refine Blk.alloc ?_ _ | with_reducible refine Blk.drew ?_ | with_reducible refine Blk.far ?_ (by simp; omega) _))
  have lX : w.heap.size < v1.heap.size := KX.out.lt
  clear hv1
  refine (C1.out _ Ev1.out).mono ?_; rintro r w1 ⟨rfl, hb1⟩
  have Y1 : Hid (Chg 0 0 v1 w1) := Lib.hid (Chg.of_ex hb1)
  have s1 : v1.heap.size ≤ w1.heap.size := Y1.out.size
  have Ew1 : Hid (Ex w w1) := Lib.hid (Ev1.out.chg Y1.out (by omega))
  clear hb1
  replace KX := Lib.hid (KX.out.chg Y1.out (by omega))
  obtain ⟨qX0, qX1⟩ := KX.out.c2
  have jX := KX.out.lt
  go_wp2_with fail
  refine name_calls ?_; intro v2 hv2
  have X2 : Hid (Chg (0) (0) w1 v2) := Lib.hid (by rw [hv2]; repeat' (first | with_reducible exact Chg.refl _ _ _ | with_reducible refine Chg.alloc ?_ _ | with_reducible refine Chg.drew ?_ | with_reducible refine Chg.set ?_ (by omega) _))
  have t2 : w1.heap.size ≤ v2.heap.size := X2.out.size
  have Ev2 : Hid (Ex w v2) := Lib.hid (Ew1.out.chg X2.out (by omega))
  clear qX0 qX1 jX
  replace KX := Lib.hid (KX.out.chg X2.out (by omega))
  clear hv2
  refine (C2.out _).mono ?_; rintro r w2 ⟨rfl, hb2⟩
  have Y2 : Hid (Chg 0 0 v2 w2) := Lib.hid (Chg.of_ex hb2)
  have s2 : v2.heap.size ≤ w2.heap.size := Y2.out.size
  have Ew2 : Hid (Ex w w2) := Lib.hid (Ev2.out.chg Y2.out (by omega))
  clear hb2
  replace KX := Lib.hid (KX.out.chg Y2.out (by omega))
  obtain ⟨qX0, qX1⟩ := KX.out.c2
  have jX := KX.out.lt
  go_wp2_with fail
  refine name_calls ?_; intro v3 hv3
  have X3 : Hid (Chg (0) (0) w2 v3) := Lib.hid (by rw [hv3]; repeat' (first | with_reducible exact Chg.refl _ _ _ | with_reducible refine Chg.alloc ?_ _ | with_reducible refine Chg.drew ?_ | with_reducible refine Chg.set ?_ (by omega) _))
  have t3 : w2.heap.size ≤ v3.heap.size := X3.out.size
  have Ev3 : Hid (Ex w v3) := Lib.hid (Ew2.out.chg X3.out (by omega))
  clear qX0 qX1 jX
  replace KX := Lib.hid (KX.out.chg X3.out (by omega))
  clear hv3
  refine (C3.out _ Ev3.out).mono ?_; rintro r w3 ⟨A3, rfl, hhr3, hb3⟩
  have Y3 : Hid (Chg 0 0 v3 w3) := Lib.hid (Chg.of_ex hb3)
  have s3 : v3.heap.size ≤ w3.heap.size := Y3.out.size
  have Ew3 : Hid (Ex w w3) := Lib.hid (Ev3.out.chg Y3.out (by omega))
  clear hb3
  replace KX := Lib.hid (KX.out.chg Y3.out (by omega))
  have HHR3 := Lib.hid hhr3; clear hhr3
  obtain ⟨qX0, qX1⟩ := KX.out.c2
  have jX := KX.out.lt
  go_wp2
  go_ret2
  exact ⟨A3, rfl, HHR3.out, Ew3.out⟩
end Go.Proofs.YtbdlpbladpppjaaDoor
/- The library contract of the sort of keys, laid at this program: the numbers of its functions and types, each compared by the kernel. Printed by the plain mode of the shelf. -/
namespace Go.Proofs
open Go.Shelf
def Tryd.sortKey_ren : Go.Shelf.Ren := ⟨fun | 6 => 24 | 15 => 45 | 14 => 44 | 28 => 60 | 29 => 61 | 20 => 52 | 21 => 53 | 22 => 54 | 23 => 55 | 24 => 56 | 25 => 57 | 26 => 58 | 27 => 59 | 46 => 66 | 47 => 67 | 48 => 68 | 49 => 69 | 50 => 70 | 57 => 71 | n => n, fun | 22 => 34 | 24 => 45 | 25 => 56 | 3 => 3 | 39 => 76 | 0 => 0 | 53 => 94 | 55 => 82 | 4 => 4 | 46 => 87 | 45 => 86 | 50 => 91 | 5 => 5 | 9 => 9 | 66 => 100 | 70 => 104 | 76 => 106 | 77 => 77 | n => n, fun | n => n⟩
theorem Tryd.sortKey : Go.Proofs.SlLaysF0.n6 Tryd.prog Tryd.sortKey_ren := {
  mixed := by kernel_rfl
  f6 := ⟨Tryd.f24.name, by decide, Tryd.func24.trans (congrArg some (by kernel_rfl))⟩
  f14 := ⟨Tryd.f44.name, by decide, Tryd.func44.trans (congrArg some (by kernel_rfl))⟩
  f15 := Tryd.func45.trans (congrArg some (by kernel_rfl))
  f20 := ⟨Tryd.f52.name, by decide, Tryd.func52.trans (congrArg some (by kernel_rfl))⟩
  f21 := ⟨Tryd.f53.name, by decide, Tryd.func53.trans (congrArg some (by kernel_rfl))⟩
  f22 := ⟨Tryd.f54.name, by decide, Tryd.func54.trans (congrArg some (by kernel_rfl))⟩
  f23 := ⟨Tryd.f55.name, by decide, Tryd.func55.trans (congrArg some (by kernel_rfl))⟩
  f24 := ⟨Tryd.f56.name, by decide, Tryd.func56.trans (congrArg some (by kernel_rfl))⟩
  f25 := ⟨Tryd.f57.name, by decide, Tryd.func57.trans (congrArg some (by kernel_rfl))⟩
  f26 := ⟨Tryd.f58.name, by decide, Tryd.func58.trans (congrArg some (by kernel_rfl))⟩
  f27 := ⟨Tryd.f59.name, by decide, Tryd.func59.trans (congrArg some (by kernel_rfl))⟩
  f28 := Tryd.func60.trans (congrArg some (by kernel_rfl))
  f29 := Tryd.func61.trans (congrArg some (by kernel_rfl))
  f46 := ⟨Tryd.f66.name, by decide, Tryd.func66.trans (congrArg some (by kernel_rfl))⟩
  f47 := Tryd.func67.trans (congrArg some (by kernel_rfl))
  f48 := Tryd.func68.trans (congrArg some (by kernel_rfl))
  f49 := ⟨Tryd.f69.name, by decide, Tryd.func69.trans (congrArg some (by kernel_rfl))⟩
  f50 := ⟨Tryd.f70.name, by decide, Tryd.func70.trans (congrArg some (by kernel_rfl))⟩
  f57 := ⟨Tryd.f71.name, by decide, Tryd.func71.trans (congrArg some (by kernel_rfl))⟩
  t0 := Tryd.underlying0
  a0 := Tryd.isAgg0
  z0 := Tryd.sizeOf0
  v0 := Tryd.zeroValue0
  t3 := Tryd.underlying3
  a3 := Tryd.isAgg3
  z3 := Tryd.sizeOf3
  v3 := Tryd.zeroValue3
  t4 := Tryd.underlying4
  a4 := Tryd.isAgg4
  z4 := Tryd.sizeOf4
  v4 := Tryd.zeroValue4
  t5 := Tryd.underlying5
  a5 := Tryd.isAgg5
  z5 := Tryd.sizeOf5
  v5 := Tryd.zeroValue5
  t9 := Tryd.underlying9
  a9 := Tryd.isAgg9
  z9 := Tryd.sizeOf9
  v9 := Tryd.zeroValue9
  t22 := Tryd.underlying34
  a22 := Tryd.isAgg34
  z22 := Tryd.sizeOf34
  v22 := Tryd.zeroValue34
  t25 := Tryd.underlying56
  a25 := Tryd.isAgg56
  z25 := Tryd.sizeOf56
  v25 := Tryd.zeroValue56
  t39 := Tryd.underlying76
  a39 := Tryd.isAgg76
  z39 := Tryd.sizeOf76
  v39 := Tryd.zeroValue76
  t45 := Tryd.underlying86
  a45 := Tryd.isAgg86
  z45 := Tryd.sizeOf86
  v45 := Tryd.zeroValue86
  t46 := Tryd.underlying87
  a46 := Tryd.isAgg87
  z46 := Tryd.sizeOf87
  v46 := Tryd.zeroValue87
  t50 := Tryd.underlying91
  a50 := Tryd.isAgg91
  z50 := Tryd.sizeOf91
  v50 := Tryd.zeroValue91
  t53 := Tryd.underlying94
  a53 := Tryd.isAgg94
  z53 := Tryd.sizeOf94
  v53 := Tryd.zeroValue94
  t55 := Tryd.underlying82
  a55 := Tryd.isAgg82
  z55 := Tryd.sizeOf82
  v55 := Tryd.zeroValue82
  t66 := Tryd.underlying100
  a66 := Tryd.isAgg100
  z66 := Tryd.sizeOf100
  v66 := Tryd.zeroValue100
  t70 := Tryd.underlying104
  a70 := Tryd.isAgg104
  z70 := Tryd.sizeOf104
  v70 := Tryd.zeroValue104
  t76 := Tryd.underlying106
  a76 := Tryd.isAgg106
  z76 := Tryd.sizeOf106
  v76 := Tryd.zeroValue106
  t77 := Tryd.underlying77
  a77 := Tryd.isAgg77
  z77 := Tryd.sizeOf77
  v77 := Tryd.zeroValue77 }
def Tryd.bitsLen2_ren : Go.Shelf.Ren := ⟨fun | 125 => 45 | 128 => 60 | 129 => 61 | n => n, fun | 46 => 76 | 3 => 3 | 51 => 94 | 53 => 82 | 4 => 4 | 5 => 5 | 9 => 9 | n => n, fun | n => n⟩
theorem Tryd.bitsLen2 : Go.Proofs.Lays.n125 Tryd.prog Tryd.bitsLen2_ren := {
  mixed := by kernel_rfl
  f125 := Tryd.func45.trans (congrArg some (by kernel_rfl))
  f128 := Tryd.func60.trans (congrArg some (by kernel_rfl))
  f129 := Tryd.func61.trans (congrArg some (by kernel_rfl))
  t3 := Tryd.underlying3
  a3 := Tryd.isAgg3
  z3 := Tryd.sizeOf3
  v3 := Tryd.zeroValue3
  t4 := Tryd.underlying4
  a4 := Tryd.isAgg4
  z4 := Tryd.sizeOf4
  v4 := Tryd.zeroValue4
  t5 := Tryd.underlying5
  a5 := Tryd.isAgg5
  z5 := Tryd.sizeOf5
  v5 := Tryd.zeroValue5
  t9 := Tryd.underlying9
  a9 := Tryd.isAgg9
  z9 := Tryd.sizeOf9
  v9 := Tryd.zeroValue9
  t46 := Tryd.underlying76
  a46 := Tryd.isAgg76
  z46 := Tryd.sizeOf76
  v46 := Tryd.zeroValue76
  t51 := Tryd.underlying94
  a51 := Tryd.isAgg94
  z51 := Tryd.sizeOf94
  v51 := Tryd.zeroValue94
  t53 := Tryd.underlying82
  a53 := Tryd.isAgg82
  z53 := Tryd.sizeOf82
  v53 := Tryd.zeroValue82 }
end Go.Proofs
/- The sort of keys that KeysOf does, over the library's contract: nothing but the keys' own row turns. -/
namespace Go.Proofs.YtbdlpbladpppjaaDoor
open Go.ChangeShapes Go.WideShapes Go.ChangeAt Go.RowKit Go.Sort
open Rec (sz cs)
set_option linter.unusedVariables false
set_option maxRecDepth 100000

def keyLt (x y : KeyD) : Bool := decide (x.space < y.space) || (decide (x.space = y.space) && decide (x.page < y.page))
def cmpK (x y : KeyD) : Int := if keyLt x y = true then -1 else 1
theorem two_grow (w : World) (a b : Obj) : (w.alloc a).alloc b = grow w (#[a] ++ #[b]) := by rw [alloc_eq_grow, alloc_eq_grow, grow_grow]

theorem keyBeforeG_c (x y : KeyD) (w : World) : Calls Tryd.prog 26 #[.agg #[.int .i64 x.space, .int .i64 x.page], .agg #[.int .i64 y.space, .int .i64 y.page]] w fun r w' => r = .returned (.bool (keyLt x y)) ∧ ∃ os, w' = grow w os := by
  obtain ⟨a, b⟩ := x
  obtain ⟨c, d⟩ := y
  by_cases h1 : a < c
  · have e : keyLt ⟨a, b⟩ ⟨c, d⟩ = true := by simp [keyLt, h1]
    rw [e]
    clear e
    go_enter Tryd.func26, Tryd.ntmps26
    go_wp2
    go_ret
    exact ⟨by first | rfl | simp, _, two_grow _ _ _⟩
  by_cases h2 : a = c
  · have h2' : (a == c) = true := by simpa using h2
    by_cases h3 : b < d
    · have e : keyLt ⟨a, b⟩ ⟨c, d⟩ = true := by simp [keyLt, h2, h3]
      rw [e]
      clear e
      go_enter Tryd.func26, Tryd.ntmps26
      go_wp2
      go_ret
      exact ⟨by first | rfl | simp, _, two_grow _ _ _⟩
    · have e : keyLt ⟨a, b⟩ ⟨c, d⟩ = false := by simp [keyLt, h1, h3]
      rw [e]
      clear e
      go_enter Tryd.func26, Tryd.ntmps26
      go_wp2
      go_ret
      exact ⟨by first | rfl | simp, _, two_grow _ _ _⟩
  · have h2' : (a == c) = false := by simpa using h2
    have e : keyLt ⟨a, b⟩ ⟨c, d⟩ = false := by simp [keyLt, h1, h2]
    rw [e]
    clear e
    go_enter Tryd.func26, Tryd.ntmps26
    go_wp2
    go_ret
    exact ⟨by first | rfl | simp, _, two_grow _ _ _⟩

theorem keysOfLt_c (x y : KeyD) (w : World) : Calls Tryd.prog 25 #[.agg #[.int .i64 x.space, .int .i64 x.page], .agg #[.int .i64 y.space, .int .i64 y.page]] w fun r w' => r = .returned (.int .i64 (cmpK x y)) ∧ ∃ q os', w' = grow (w.drewN q) os' := by
  have hcon := fun W' => keyBeforeG_c x y W'
  unfold cmpK
  generalize keyLt x y = r at hcon ⊢
  cases r
  · go_enter Tryd.func25, Tryd.ntmps25
    go_wp2_with (go_at_call 26; refine (hcon _).mono ?_; rintro e w' ⟨rfl, os, rfl⟩)
    go_ret
    exact ⟨rfl, 0, _, by rw [two_grow, grow_grow]; rfl⟩
  · go_enter Tryd.func25, Tryd.ntmps25
    go_wp2_with (go_at_call 26; refine (hcon _).mono ?_; rintro e w' ⟨rfl, os, rfl⟩)
    go_ret
    exact ⟨rfl, 0, _, by rw [two_grow, grow_grow]; rfl⟩

theorem cmpLaysK (blk off size : Nat) (w : World) : CmpLays Tryd.prog 25 #[] (cs (α := KeyD)) 2 cmpK blk off size w :=
  fun _ _ _ _ x y => keysOfLt_c x y _

theorem lenK (n : Nat) (W : World) (h : n ≤ 12) : Calls Tryd.prog 45 #[.int .u64 n] W fun e w' => (∃ l : Int, e = .returned (.int .i64 l)) ∧ w' = W :=
  (Go.Proofs.Any.bits_Len Tryd.bitsLen2 n W (by omega) (by omega)).mono fun _ _ ⟨he, hw⟩ => ⟨⟨_, he⟩, hw⟩

theorem sort_chg (enc : KeyD → List Value) (k : Nat) (w : World) (blk off n : Nat) (d : Array KeyD) (os : Array Obj) : Chg blk (blk + 1) w (sortWorldK enc k w blk off n d os) := by
  refine ⟨rfl, rfl, rfl, ?_, fun i hi hn => ?_⟩
  · simp [sortWorldK, grow, putRowK, putRow, mapBlock, Sort.ahead]
  · have hne : blk ≠ i := by omega
    simp only [sortWorldK, grow, putRowK, putRow, mapBlock, Sort.ahead]
    rw [Array.getElem?_append_left (by simpa using hi), Array.getElem?_modify, if_neg hne]

theorem bk_holds {T : TypeId} {w : World} {gb : Nat} {ks : List KeyD} {rest : List Value} (h : Bk T w gb ks rest) : HoldsK (cs (α := KeyD)) 2 w gb 0 ks.toArray := by
  intro t ht
  rw [size_flatK] at ht
  have ht' : t < ks.length * 2 := by simpa using ht
  rw [get_flatK _ _ _ _ ht]
  have hk : t / 2 < ks.length := by omega
  refine ⟨?_, by rw [Nat.zero_add]; exact h.frozen t⟩
  have hx : ks[t / 2]? = some ks[t / 2] := List.getElem?_eq_getElem hk
  have hj : t % 2 < sz KeyD := Nat.mod_lt _ (by decide)
  have e : t / 2 * sz KeyD + t % 2 = 0 + t := by show t / 2 * 2 + t % 2 = 0 + t; omega
  have hl : t % 2 < (cs ks[t / 2]).length := by rw [Rec.len]; exact hj
  have hc := h.cell_at hx hj (u := (cs ks[t / 2])[t % 2]) (List.getElem?_eq_getElem hl)
  rw [e] at hc
  rw [hc]
  congr 1
  have e1 : (ks.toArray[t / 2]! : KeyD) = ks[t / 2] := by rw [getElem!_pos _ _ (by simpa using hk)]; simp
  rw [e1]
  exact (getElem!_pos (cs ks[t / 2]) (t % 2) hl).symm

theorem sortKeys_c (gb n c : Nat) (ks : List KeyD) (rest : List Value) (w : World) (hb : Bk 45 w gb ks rest) (hn : ks.length = n) (h12 : n ≤ 12) :
    Calls Tryd.prog 24 #[.slice (some ⟨gb, 0, none⟩) n c, .func (.func 25) #[] #[]] w fun r w' => r = .returned (.tuple #[]) ∧ Chg gb (gb + 1) w w' := by
  subst hn
  have eg : ∀ args w, (callFunc 25 args).run Tryd.prog w = .ok (.enter 25 args) w := enters_of Tryd.func25 (by kernel_rfl) rfl
  have hcon := Go.Proofs.AnyQ.slices_SortFunc_small Tryd.sortKey 2 Tryd.isAgg45 Tryd.sizeOf45 (cs (α := KeyD)) (fun x => Rec.len x) (fun x v hv => Rec.one x v hv) cmpK 25 #[] gb 0 c ks.toArray w eg (cmpLaysK gb 0 _ w) (bk_holds hb) (Blk.lt hb) (by simpa using h12) lenK
  change Calls Tryd.prog 24 _ _ _ at hcon
  rw [List.size_toArray] at hcon
  exact hcon.mono fun r w' ⟨h1, n, os, h2⟩ => ⟨h1, by rw [h2]; exact sort_chg _ _ _ _ _ _ _ _⟩

/-! ### No key at all -/
theorem insNone_c (A : Option Addr) (c : Nat) (f : Value) (w : World) : Calls Tryd.prog 52 #[.slice A 0 c, .int .i64 0, .int .i64 0, f] w fun r w' => r = .returned (.tuple #[]) ∧ w = w' := by
  go_enter Tryd.func52, Tryd.ntmps52
  go_wp2
  refine wp_loop_rounds 1 ?_
  rw [rounds_succ]
  go_wp2
  go_end0
  exact ⟨rfl, rfl⟩
theorem pdqNone_c (A : Option Addr) (c : Nat) (l : Int) (f : Value) (w : World) : Calls Tryd.prog 44 #[.slice A 0 c, .int .i64 0, .int .i64 0, .int .i64 l, f] w fun r w' => r = .returned (.tuple #[]) ∧ w = w' := by
  have hi := Lib.hid (fun W => insNone_c A c f W)
  go_enter Tryd.func44, Tryd.ntmps44
  go_wp2
  refine wp_loop_rounds 1 ?_
  rw [rounds_succ]
  go_wp2_with (go_at_call 52; refine (hi.out _).mono ?_; rintro e w' ⟨rfl, rfl⟩)
  (try simp only [Exit.inBlock, Exit.then]); refine bodyPost_ret (results_none rfl _ _ _) rfl ?_
  exact ⟨rfl, rfl⟩
theorem sortNone_c (A : Option Addr) (c : Nat) (f : Value) (w : World) : Calls Tryd.prog 24 #[.slice A 0 c, f] w fun r w' => r = .returned (.tuple #[]) ∧ w = w' := by
  have hp := Lib.hid (fun l W => pdqNone_c A c l f W)
  have hl := Lib.hid (fun W => lenK 0 W (by omega))
  go_enter Tryd.func24, Tryd.ntmps24
  go_wp2_with (first | (go_at_call 45; refine (hl.out _).mono ?_; rintro e w' ⟨⟨l, rfl⟩, rfl⟩) | (go_at_call 44; refine (hp.out _ _).mono ?_; rintro e w' ⟨rfl, rfl⟩))
  go_end0
  exact ⟨rfl, rfl⟩
theorem clipKey_c (A : Option Addr) (n c : Nat) (w : World) (hc : n ≤ c) (hc2 : c ≤ maxLen) :
    Calls Tryd.prog 27 #[.slice A n c] w fun r w' => r = .returned (.slice A n n) ∧ w = w' := by
  have h : (n : Int) ≤ c := by omega
  go_enter Tryd.func27, Tryd.ntmps27
  go_wp2
  go_ret
  exact ⟨rfl, rfl⟩
end Go.Proofs.YtbdlpbladpppjaaDoor
/- KeysOf of impl over a valid table: as many keys come back as frames are used. -/
namespace Go.Proofs.YtbdlpbladpppjaaDoor
open Go.ChangeShapes Go.WideShapes Go.ChangeAt Go.RowKit
open Rec (sz cs)
set_option linter.unusedVariables false
set_option maxRecDepth 100000

theorem infoKey9 : (Tryd.prog.info? 45).map (fun i => (i.zero, i.size, i.bytes)) = some (some (.agg #[.int .i64 0, .int .i64 0]), 2, 16) := by kernel_rfl

theorem one_key (w : World) (k : KeyD) {g : Nat} (hg : g = w.heap.size) : Rd (w.alloc (.cells #[.int .i64 k.space, .int .i64 k.page] 45)) (some ⟨g, 0, none⟩) [k] := by
  subst hg
  exact Bk.rd (Bk.new w 45 [k])

def KeysAre (n : Nat) (w : World) (r : Ending) (w' : World) : Prop := ∃ A' : Option Addr, r = .returned (.slice A' n n) ∧ Ex w w'

set_option maxHeartbeats 4000000 in
theorem keysOfI_c (t : TableD) (A : Option Addr) (c : Nat) (B : Option Addr) (d : Nat) (w : World) (hx : Rd w A t.buckets) (hy : Rd w B t.frames) (hok : TableOk t) (hm : t.frames.length ≤ 12) (hv : FreeV w) :
    Calls Tryd.prog 9 #[.agg #[.slice A t.buckets.length c, .slice B t.frames.length d]] w (KeysAre (usedN t.frames t.frames.length) w) := by
  obtain ⟨i0, hi, hz0, hz1, hz2⟩ := info_parts infoKey9
  have few := hok.1
  unfold TableHead at few
  have C1 := Lib.hid (fun w' (h : Ex w w') => tableI_c t A c B d w' (hx.ex h) (hy.ex h) (by omega) (by omega) (hv.ex h))
  rw [tableV_yes hok] at C1
  have HY := Lib.hid hy
  obtain ⟨n, hn1⟩ : ∃ n, n = t.frames.length := ⟨_, rfl⟩
  have HN := Lib.hid hn1
  rw [← hn1] at hm C1 ⊢
  generalize t.buckets.length = m at C1 ⊢
  clear hx hy hok hv few hn1
  go_enter Tryd.func9, Tryd.ntmps9
  go_wp2_with fail
  refine name_calls ?_; intro v1 hv1
  have X1 : Hid (Chg (0) (0) w v1) := Lib.hid (by rw [hv1]; repeat' (first | with_reducible exact Chg.refl _ _ _ | with_reducible refine Chg.alloc ?_ _ | with_reducible refine Chg.drew ?_ | with_reducible refine Chg.set ?_ (by omega) _))
  have t1 : w.heap.size ≤ v1.heap.size := X1.out.size
  have Ev1 : Hid (Ex w v1) := Lib.hid ((Ex.refl w).chg X1.out (by omega))
  have KX : Hid (Blk v1 (w.heap.size) 26 [.slice A m c, .slice B n d]) := Lib.hid (by rw [hv1]; repeat' (first | with_reducible exact Blk.new_at _ _ _ (by simp) | with_reducible refine Blk.alloc ?_ _ | with_reducible refine Blk.drew ?_ | with_reducible refine Blk.far ?_ (by simp; omega) _))
  have lX : w.heap.size < v1.heap.size := KX.out.lt
  clear hv1
  refine (C1.out _ Ev1.out).mono ?_; rintro r w1 ⟨rfl, hb1⟩
  have Y1 : Hid (Chg 0 0 v1 w1) := Lib.hid (Chg.of_ex hb1)
  have s1 : v1.heap.size ≤ w1.heap.size := Y1.out.size
  have Ew1 : Hid (Ex w w1) := Lib.hid (Ev1.out.chg Y1.out (by omega))
  clear hb1
  replace KX := Lib.hid (KX.out.chg Y1.out (by omega))
  obtain ⟨qX0, qX1⟩ := KX.out.c2
  have jX := KX.out.lt
  go_wp2
  clear C1
  go_loopw [3, 12] (fun o i wr => ∃ (k : Nat) (ks : List KeyD) (A' : Option Addr) (c' : Nat), i = .int .i64 k ∧ o = .slice A' ks.length c' ∧ k ≤ n ∧ ks.length = usedN t.frames k ∧ Fr 45 wr (w.heap.size + 1) A' c' ks ∧ Ex w wr ∧ w.heap.size + 1 ≤ wr.heap.size) (fun _ i _ => n - (intOf i).toNat)
  case atStart => exact ⟨0, [], none, 0, rfl, rfl, Nat.zero_le _, rfl, Fr.none_ _ _ _ _, Ew1.out, by omega⟩
  case round =>
    obtain ⟨k, ks, A', c', rfl, rfl, hk, hkl, hf, hex, hsz⟩ := hrel
    have HKL := Lib.hid hkl
    have HF := Lib.hid hf
    have HE := Lib.hid hex
    have HSZ := Lib.hid hsz
    have hul := usedN_le t.frames k
    have hl12 : ks.length ≤ 12 := by omega
    clear hkl hf hex hsz hul
    by_cases hlt : k < n
    · obtain ⟨b2, o2, f, rfl, hb2, hfk, k0, k1, k2, k3, k4⟩ := (HY.out.ex HE.out).frame (k := k) (by have := HN.out; omega)
      have HFK := Lib.hid hfk
      have hkn : (k : Int) < (n : Int) := by omega
      have hk0 : ¬ (k : Int) < 0 := by omega
      cases hu : f.used
      · have HU : Hid (usedN t.frames (k + 1) = usedN t.frames k) := Lib.hid (by rw [usedN_succ HFK.out]; simp [hu])
        rw [hu] at k0
        clear hfk hu
        go_wp2
        go_roundw
        case rel => exact ⟨k + 1, ks, A', c', by go_num, rfl, by omega, by rw [HU.out]; exact HKL.out, HF.out.alloc _, HE.out.alloc _, by have := HSZ.out; simp; omega⟩
        case measure => simp [intOf]; omega
      · have HU : Hid (usedN t.frames (k + 1) = usedN t.frames k + 1) := Lib.hid (by rw [usedN_succ HFK.out]; simp [hu])
        rw [hu] at k0
        clear hfk hu
        have h63 : ks.length + 1 ≤ maxLen := by simp [maxLen]; omega
        have hby : (ks.length + 1) * 16 ≤ 140737488355328 := by omega
        go_wp2_with (at_builtin; refine wpList_append_fr (α := KeyD) rfl _ _ 34 rfl 45 i0 _ 16 (w.heap.size + 1) Tryd.underlying34 hi hz0 hz1 hz2 rfl A' c' ks.length ks rfl rfl ((HF.out.alloc _).alloc _) _ 1 1 [f.key] rfl rfl (one_key _ _ (by simp)) h63 hby (Nat.le_trans HSZ.out (by simp; omega)) ?_)
        intro A6 c6 w6 happ
        have HAP := Lib.hid happ
        have HE6 : Hid (Ex w w6) := Lib.hid (((HE.out.alloc _).alloc _).grown HAP.out.grown (fun g hg => by have := HF.out.row _ hg; omega))
        have hw6 : wr.heap.size ≤ w6.heap.size := by have := HAP.out.grown.size; simp at this; omega
        clear happ
        go_wp2
        go_roundw
        case rel => exact ⟨k + 1, ks ++ [f.key], A6, c6, by go_num, by simp, by omega, by rw [HU.out, ← HKL.out]; simp, HAP.out.fr, HE6.out, by have := HSZ.out; omega⟩
        case measure => simp [intOf]; omega
    · obtain rfl : k = n := by omega
      have hle : ks.length ≤ c' := HF.out.le
      have hcm : c' ≤ maxLen := HF.out.cap
      rcases Nat.eq_zero_or_pos ks.length with h0 | h0
      · rw [h0] at hle ⊢
        have CS := Lib.hid (fun W => sortNone_c A' c' (.func (.func 25) #[] #[]) W)
        have CC := Lib.hid (fun W => clipKey_c A' 0 c' W hle hcm)
        go_wp2_with fail
        refine (CS.out _).mono ?_
        rintro r w5 ⟨rfl, rfl⟩
        go_wp2_with fail
        refine (CC.out _).mono ?_
        rintro r w5 ⟨rfl, rfl⟩
        go_wp2
        go_ret
        exact ⟨A', by rw [← HKL.out, h0]; rfl, HE.out⟩
      · obtain ⟨g, rest, rfl, hBg, hbk, hrest⟩ := HF.out.open_ (k := 0) h0
        have CS := Lib.hid (sortKeys_c g ks.length c' ks rest wr hbk rfl hl12)
        have CC := Lib.hid (fun W => clipKey_c (some ⟨g, 0, none⟩) ks.length c' W hle hcm)
        clear hbk hrest
        go_wp2_with fail
        refine CS.out.mono ?_
        rintro r w5 ⟨rfl, hch⟩
        have HCH := Lib.hid hch
        clear hch
        go_wp2_with fail
        refine (CC.out _).mono ?_
        rintro r w6 ⟨rfl, rfl⟩
        go_wp2
        go_ret
        exact ⟨_, by rw [← HKL.out]; rfl, HE.out.chg HCH.out (.inr (by omega))⟩
end Go.Proofs.YtbdlpbladpppjaaDoor
/- The law FnRehashOne: the walk. -/
namespace Go.Proofs.YtbdlpbladpppjaaDoor
open Go.ChangeShapes Go.WideShapes Go.ChangeAt Go.RowKit
open Rec (sz cs)
set_option linter.unusedVariables false
set_option maxRecDepth 100000

theorem rehash_small {t : TableD} (n : Int) (hb : t.frames.length ≤ 8) : (rehashT t n).1.buckets.length ≤ 16 ∧ (rehashT t n).1.frames.length ≤ 16 := by
  by_cases h : TableOk t ∧ (1 ≤ n ∧ n ≤ 16)
  · obtain ⟨_, _, h3, h4⟩ := rehash_ok h.1 h.2
    omega
  · have e : rehashT t n = (noTable, false) := by unfold rehashT; rw [if_neg h]
    rw [e]
    simp [noTable]
theorem rehash_yes {t : TableD} {n : Int} (h : (rehashT t n).2 = true) : TableOk t ∧ (1 ≤ n ∧ n ≤ 16) := by
  by_cases h1 : TableOk t ∧ (1 ≤ n ∧ n ≤ 16)
  · exact h1
  · have e : rehashT t n = (noTable, false) := by unfold rehashT; rw [if_neg h1]
    rw [e] at h
    cases h
theorem nums_at (l : List Nat) (k : Nat) : (nums l)[k]? = (l[k]?).map fun (i : Nat) => (i : Int) := by simp [nums]

set_option maxHeartbeats 16000000 in
theorem walk_FnRehashOne (A : Option Addr) (n c : Nat) (bs : List ByteD) (w : World) (hr : Rd w A bs) (hc : Bytes bs ∧ bs.length = n ∧ n ≤ c ∧ c ≤ maxLen) (hv : FreeV w) :
    Calls Tryd.prog 3 #[.slice A n c] w fun r w' => r = .returned (.bool true) ∧ Ex w w' := by
  have HV := Lib.hid hv
  clear hv
  obtain ⟨hb, rfl, hnc, hcm⟩ := hc
  by_cases hbig : 1048576 < bs.length
  · have hbig' : (1048576 : Int) < (bs.length : Int) := by omega
    unfold maxLen at hcm
    generalize bs.length = n at *
    go_enter Tryd.func3, Tryd.ntmps3
    go_wp2
    go_ret
    exact ⟨rfl, Ex.refl _⟩
  have hsm : ¬ (1048576 : Int) < (bs.length : Int) := by omega
  have C0 := Lib.hid (fun w' (h : Ex w w') => drawRehash_c A c bs w' (hr.ex h) hb (by omega) hnc hcm)
  have hcm' := hcm
  unfold maxLen at hcm'
  generalize bs.length = n at *
  clear hr hb hcm
  go_enter Tryd.func3, Tryd.ntmps3
  go_wp2_with fail
  refine name_calls ?_; intro v0 hv0
  have X0 : Hid (Chg (0) (0) w v0) := Lib.hid (by rw [hv0]; repeat' (first | with_reducible exact Chg.refl _ _ _ | with_reducible refine Chg.alloc ?_ _ | with_reducible refine Chg.drew ?_ | with_reducible refine Chg.set ?_ (by omega) _))
  have t0 : w.heap.size ≤ v0.heap.size := X0.out.size
  have Ev0 : Hid (Ex w v0) := Lib.hid ((Ex.refl w).chg X0.out (by omega))
  clear hv0
  refine (C0.out _ Ev0.out).mono ?_; rintro r w0 ⟨t, A0, c0, B0, d0, m, rfl, hmm, k17, k8, hfa, hfb, hb0⟩
  have Y0 : Hid (Chg 0 0 v0 w0) := Lib.hid (Chg.of_ex hb0)
  have s0 : v0.heap.size ≤ w0.heap.size := Y0.out.size
  have Ew0 : Hid (Ex w w0) := Lib.hid (Ev0.out.chg Y0.out (by omega))
  clear hb0
  have HFA := Lib.hid hfa; clear hfa
  have WHFA := Lib.hid HFA.out.row
  have HFB := Lib.hid hfb; clear hfb
  have WHFB := Lib.hid HFB.out.row
  have HT : Hid (∀ w', Ex w0 w' → Rd w' A0 t.buckets ∧ Rd w' B0 t.frames) := Lib.hid (fun w' h => ⟨HFA.out.rd.ex h, HFB.out.rd.ex h⟩)
  have HV0 : Hid (FreeV w0) := Lib.hid (HV.out.ex Ew0.out)
  have CI := Lib.hid (fun w' (e : Ex w0 w') => rehashI_c t A0 c0 B0 d0 m w' (HT.out _ e).1 (HT.out _ e).2 (by omega) (by omega) (HV0.out.ex e))
  have CS := Lib.hid (fun w' (e : Ex w0 w') => rehashS_c t A0 c0 B0 d0 m w' (HT.out _ e).1 (HT.out _ e).2 (by omega) (by omega))
  have HY : Hid ((rehashT t m).2 = true → TableOk t ∧ (1 ≤ m ∧ m ≤ 16)) := Lib.hid rehash_yes
  have HLX : Hid ((rehashT t m).1.buckets.length ≤ 16 ∧ (rehashT t m).1.frames.length ≤ 16) := Lib.hid (rehash_small m k8)
  obtain ⟨q, hq⟩ : ∃ q, q = rehashT t m := ⟨_, rfl⟩
  rw [← hq] at CI CS HY HLX
  have HQ := Lib.hid hq
  clear hq C0
  obtain ⟨x, okx⟩ := q
  dsimp only at CI CS HY HLX
  have CT := Lib.hid (fun (A1 : Option Addr) (c1 : Nat) (B1 : Option Addr) (d1 : Nat) (A2 : Option Addr) (c2 : Nat) (B2 : Option Addr) (d2 : Nat) (w' : World) (h1 : Rd w' A1 x.buckets) (h2 : Rd w' B1 x.frames) (h3 : Rd w' A2 x.buckets) (h4 : Rd w' B2 x.frames) => tableSameI_c x x A1 c1 B1 d1 A2 c2 B2 d2 w' h1 h2 h3 h4 (by have := HLX.out.1; omega) (by have := HLX.out.2; omega) (by have := HLX.out.1; omega) (by have := HLX.out.2; omega))
  rw [eqB_self] at CT
  unfold TabOr at CI CS
  dsimp only at CI CS
  cases okx
  · clear HY
    go_wp2_with fail
    refine name_calls ?_; intro v1 hv1
    have X1 : Hid (Chg (0) (0) w0 v1) := Lib.hid (by rw [hv1]; repeat' (first | with_reducible exact Chg.refl _ _ _ | with_reducible refine Chg.alloc ?_ _ | with_reducible refine Chg.drew ?_ | with_reducible refine Chg.set ?_ (by omega) _))
    have t1 : w0.heap.size ≤ v1.heap.size := X1.out.size
    have Ev1 : Hid (Ex w v1) := Lib.hid (Ew0.out.chg X1.out (by omega))
    replace HFA := Lib.hid (HFA.out.chg X1.out WHFA.out (by omega))
    replace HFB := Lib.hid (HFB.out.chg X1.out WHFB.out (by omega))
    have KT : Hid (Blk v1 (w0.heap.size) 26 [.slice A0 t.buckets.length c0, .slice B0 t.frames.length d0]) := Lib.hid (by rw [hv1]; repeat' (first | with_reducible exact Blk.new_at _ _ _ (by simp) | with_reducible refine Blk.alloc ?_ _ | with_reducible refine Blk.drew ?_ | with_reducible refine Blk.far ?_ (by simp; omega) _))
    have lT : w0.heap.size < v1.heap.size := KT.out.lt
    clear hv1
    refine (CI.out _ X1.out.ex_).mono ?_; rintro r w1 ⟨A1, c1, B1, d1, rfl, hfc, hfd, hb1⟩
    have Y1 : Hid (Chg 0 0 v1 w1) := Lib.hid (Chg.of_ex hb1)
    have s1 : v1.heap.size ≤ w1.heap.size := Y1.out.size
    have Ew1 : Hid (Ex w w1) := Lib.hid (Ev1.out.chg Y1.out (by omega))
    clear hb1
    replace KT := Lib.hid (KT.out.chg Y1.out (by omega))
    replace HFA := Lib.hid (HFA.out.chg Y1.out WHFA.out (by omega))
    replace HFB := Lib.hid (HFB.out.chg Y1.out WHFB.out (by omega))
    have HFC := Lib.hid hfc; clear hfc
    have WHFC := Lib.hid HFC.out.row
    have HFD := Lib.hid hfd; clear hfd
    have WHFD := Lib.hid HFD.out.row
    obtain ⟨qT0, qT1⟩ := KT.out.c2
    have jT := KT.out.lt
    go_wp2_with fail
    refine name_calls ?_; intro v2 hv2
    have X2 : Hid (Chg (0) (0) w1 v2) := Lib.hid (by rw [hv2]; repeat' (first | with_reducible exact Chg.refl _ _ _ | with_reducible refine Chg.alloc ?_ _ | with_reducible refine Chg.drew ?_ | with_reducible refine Chg.set ?_ (by omega) _))
    have t2 : w1.heap.size ≤ v2.heap.size := X2.out.size
    have Ev2 : Hid (Ex w v2) := Lib.hid (Ew1.out.chg X2.out (by omega))
    clear qT0 qT1 jT
    replace KT := Lib.hid (KT.out.chg X2.out (by omega))
    replace HFA := Lib.hid (HFA.out.chg X2.out WHFA.out (by omega))
    replace HFB := Lib.hid (HFB.out.chg X2.out WHFB.out (by omega))
    replace HFC := Lib.hid (HFC.out.chg X2.out WHFC.out (by omega))
    replace HFD := Lib.hid (HFD.out.chg X2.out WHFD.out (by omega))
    have KX : Hid (Blk v2 (w1.heap.size) 26 [.slice A1 x.buckets.length c1, .slice B1 x.frames.length d1]) := Lib.hid (by rw [hv2]; repeat' (first | with_reducible exact Blk.new_at _ _ _ (by simp) | with_reducible refine Blk.alloc ?_ _ | with_reducible refine Blk.drew ?_ | with_reducible refine Blk.far ?_ (by simp; omega) _))
    have lX : w1.heap.size < v2.heap.size := KX.out.lt
    clear hv2
    refine (CS.out _ (X1.out.ex_.trans (Y1.out.ex_.trans X2.out.ex_))).mono ?_; rintro r w2 ⟨A2, c2, B2, d2, rfl, hfe, hff, hb2⟩
    have Y2 : Hid (Chg 0 0 v2 w2) := Lib.hid (Chg.of_ex hb2)
    have s2 : v2.heap.size ≤ w2.heap.size := Y2.out.size
    have Ew2 : Hid (Ex w w2) := Lib.hid (Ev2.out.chg Y2.out (by omega))
    clear hb2
    replace KT := Lib.hid (KT.out.chg Y2.out (by omega))
    replace KX := Lib.hid (KX.out.chg Y2.out (by omega))
    replace HFA := Lib.hid (HFA.out.chg Y2.out WHFA.out (by omega))
    replace HFB := Lib.hid (HFB.out.chg Y2.out WHFB.out (by omega))
    replace HFC := Lib.hid (HFC.out.chg Y2.out WHFC.out (by omega))
    replace HFD := Lib.hid (HFD.out.chg Y2.out WHFD.out (by omega))
    have HFE := Lib.hid hfe; clear hfe
    have WHFE := Lib.hid HFE.out.row
    have HFF := Lib.hid hff; clear hff
    have WHFF := Lib.hid HFF.out.row
    obtain ⟨qT0, qT1⟩ := KT.out.c2
    have jT := KT.out.lt
    obtain ⟨qX0, qX1⟩ := KX.out.c2
    have jX := KX.out.lt
    go_wp2_with fail
    refine name_calls ?_; intro v3 hv3
    have X3 : Hid (Chg (0) (0) w2 v3) := Lib.hid (by rw [hv3]; repeat' (first | with_reducible exact Chg.refl _ _ _ | with_reducible refine Chg.alloc ?_ _ | with_reducible refine Chg.drew ?_ | with_reducible refine Chg.set ?_ (by omega) _))
    have t3 : w2.heap.size ≤ v3.heap.size := X3.out.size
    have Ev3 : Hid (Ex w v3) := Lib.hid (Ew2.out.chg X3.out (by omega))
    clear qT0 qT1 jT
    clear qX0 qX1 jX
    replace KT := Lib.hid (KT.out.chg X3.out (by omega))
    replace KX := Lib.hid (KX.out.chg X3.out (by omega))
    replace HFA := Lib.hid (HFA.out.chg X3.out WHFA.out (by omega))
    replace HFB := Lib.hid (HFB.out.chg X3.out WHFB.out (by omega))
    replace HFC := Lib.hid (HFC.out.chg X3.out WHFC.out (by omega))
    replace HFD := Lib.hid (HFD.out.chg X3.out WHFD.out (by omega))
    replace HFE := Lib.hid (HFE.out.chg X3.out WHFE.out (by omega))
    replace HFF := Lib.hid (HFF.out.chg X3.out WHFF.out (by omega))
    have KY : Hid (Blk v3 (w2.heap.size) 26 [.slice A2 x.buckets.length c2, .slice B2 x.frames.length d2]) := Lib.hid (by rw [hv3]; repeat' (first | with_reducible exact Blk.new_at _ _ _ (by simp) | with_reducible refine Blk.alloc ?_ _ | with_reducible refine Blk.drew ?_ | with_reducible refine Blk.far ?_ (by simp; omega) _))
    have lY : w2.heap.size < v3.heap.size := KY.out.lt
    clear hv3
    refine (CT.out A1 c1 B1 d1 A2 c2 B2 d2 _ HFC.out.rd HFD.out.rd HFE.out.rd HFF.out.rd).mono ?_; rintro r w3 ⟨rfl, hb3⟩
    have Y3 : Hid (Chg 0 0 v3 w3) := Lib.hid (Chg.of_ex hb3)
    have s3 : v3.heap.size ≤ w3.heap.size := Y3.out.size
    have Ew3 : Hid (Ex w w3) := Lib.hid (Ev3.out.chg Y3.out (by omega))
    clear hb3
    replace KT := Lib.hid (KT.out.chg Y3.out (by omega))
    replace KX := Lib.hid (KX.out.chg Y3.out (by omega))
    replace KY := Lib.hid (KY.out.chg Y3.out (by omega))
    replace HFA := Lib.hid (HFA.out.chg Y3.out WHFA.out (by omega))
    replace HFB := Lib.hid (HFB.out.chg Y3.out WHFB.out (by omega))
    replace HFC := Lib.hid (HFC.out.chg Y3.out WHFC.out (by omega))
    replace HFD := Lib.hid (HFD.out.chg Y3.out WHFD.out (by omega))
    replace HFE := Lib.hid (HFE.out.chg Y3.out WHFE.out (by omega))
    replace HFF := Lib.hid (HFF.out.chg Y3.out WHFF.out (by omega))
    obtain ⟨qT0, qT1⟩ := KT.out.c2
    have jT := KT.out.lt
    obtain ⟨qX0, qX1⟩ := KX.out.c2
    have jX := KX.out.lt
    obtain ⟨qY0, qY1⟩ := KY.out.c2
    have jY := KY.out.lt
    go_wp2_with fail
    refine name_calls ?_; intro v4 hv4
    have X4 : Hid (Chg (0) (0) w3 v4) := Lib.hid (by rw [hv4]; repeat' (first | with_reducible exact Chg.refl _ _ _ | with_reducible refine Chg.alloc ?_ _ | with_reducible refine Chg.drew ?_ | with_reducible refine Chg.set ?_ (by omega) _))
    have t4 : w3.heap.size ≤ v4.heap.size := X4.out.size
    have Ev4 : Hid (Ex w v4) := Lib.hid (Ew3.out.chg X4.out (by omega))
    clear qT0 qT1 jT
    clear qX0 qX1 jX
    clear qY0 qY1 jY
    replace KT := Lib.hid (KT.out.chg X4.out (by omega))
    replace KX := Lib.hid (KX.out.chg X4.out (by omega))
    replace KY := Lib.hid (KY.out.chg X4.out (by omega))
    replace HFA := Lib.hid (HFA.out.chg X4.out WHFA.out (by omega))
    replace HFB := Lib.hid (HFB.out.chg X4.out WHFB.out (by omega))
    replace HFC := Lib.hid (HFC.out.chg X4.out WHFC.out (by omega))
    replace HFD := Lib.hid (HFD.out.chg X4.out WHFD.out (by omega))
    replace HFE := Lib.hid (HFE.out.chg X4.out WHFE.out (by omega))
    replace HFF := Lib.hid (HFF.out.chg X4.out WHFF.out (by omega))
    clear hv4
    refine (CT.out A1 c1 B1 d1 A2 c2 B2 d2 _ HFC.out.rd HFD.out.rd HFE.out.rd HFF.out.rd).mono ?_; rintro r w4 ⟨rfl, hb4⟩
    have Y4 : Hid (Chg 0 0 v4 w4) := Lib.hid (Chg.of_ex hb4)
    have s4 : v4.heap.size ≤ w4.heap.size := Y4.out.size
    have Ew4 : Hid (Ex w w4) := Lib.hid (Ev4.out.chg Y4.out (by omega))
    clear hb4
    replace KT := Lib.hid (KT.out.chg Y4.out (by omega))
    replace KX := Lib.hid (KX.out.chg Y4.out (by omega))
    replace KY := Lib.hid (KY.out.chg Y4.out (by omega))
    replace HFA := Lib.hid (HFA.out.chg Y4.out WHFA.out (by omega))
    replace HFB := Lib.hid (HFB.out.chg Y4.out WHFB.out (by omega))
    replace HFC := Lib.hid (HFC.out.chg Y4.out WHFC.out (by omega))
    replace HFD := Lib.hid (HFD.out.chg Y4.out WHFD.out (by omega))
    replace HFE := Lib.hid (HFE.out.chg Y4.out WHFE.out (by omega))
    replace HFF := Lib.hid (HFF.out.chg Y4.out WHFF.out (by omega))
    obtain ⟨qT0, qT1⟩ := KT.out.c2
    have jT := KT.out.lt
    obtain ⟨qX0, qX1⟩ := KX.out.c2
    have jX := KX.out.lt
    obtain ⟨qY0, qY1⟩ := KY.out.c2
    have jY := KY.out.lt
    go_wp2
    go_ret
    exact ⟨rfl, Ew4.out⟩
  obtain ⟨hok, hm1⟩ := HY.out rfl
  obtain ⟨e2, huok, hlf, hlb⟩ := rehash_ok hok (n := 1) ⟨by omega, by omega⟩
  obtain ⟨a, hba, hcha⟩ := rehash_one hok
  have hag := rehash_again hok (n := 1) (m := m) ⟨by omega, by omega⟩ hm1
  have hlen := usedIx_len t.frames t.frames.length (Nat.le_refl _)
  have hdn : Hid (∀ i a b : Nat, (usedIx t.frames t.frames.length).reverse[i]? = some a → (usedIx t.frames t.frames.length).reverse[i + 1]? = some b → b < a) := Lib.hid (fun i a b h1 h2 => usedIx_down h1 h2)
  have hun := usedN_le t.frames t.frames.length
  have CK := Lib.hid (fun w' (e : Ex w0 w') => keysOfI_c t A0 c0 B0 d0 w' (HT.out _ e).1 (HT.out _ e).2 hok (by omega) (HV0.out.ex e))
  have C1 := Lib.hid (fun w' (e : Ex w0 w') => rehashI_c t A0 c0 B0 d0 1 w' (HT.out _ e).1 (HT.out _ e).2 (by omega) (by omega) (HV0.out.ex e))
  have hlr : (usedIx t.frames t.frames.length).reverse.length = usedN t.frames t.frames.length := by rw [List.length_reverse, hlen]
  rw [← hlr] at CK hun
  generalize (usedIx t.frames t.frames.length).reverse = l0 at CK hun hcha hdn
  obtain ⟨u, hu⟩ : ∃ u, u = (rehashT t 1).1 := ⟨_, rfl⟩
  have e3 : rehashT t 1 = (u, true) := by rw [← e2, hu]
  rw [← hu] at huok hlf hlb hba hcha hag
  rw [e3] at C1
  rw [← HQ.out] at hag
  have hl8 : l0.length ≤ 8 := by omega
  have HUOK := Lib.hid huok
  have HBA : Hid (u.buckets[0]? = some a) := Lib.hid (by rw [hba]; rfl)
  have HCHA := Lib.hid hcha
  have hul : u.frames.length ≤ 8 := by omega
  have hub : u.buckets.length ≤ 8 := by rw [hba]; simp
  have C6 := Lib.hid (fun (A4 : Option Addr) (c4 : Nat) (B4 : Option Addr) (d4 : Nat) w' (h1 : Rd w' A4 u.buckets) (h2 : Rd w' B4 u.frames) (h3 : FreeV w') => rehashI_c u A4 c4 B4 d4 m w' h1 h2 (by omega) (by omega) h3)
  rw [hag] at C6
  have C5 := Lib.hid (fun (A4 : Option Addr) (c4 : Nat) (B4 : Option Addr) (d4 : Nat) w' (h1 : Rd w' A4 u.buckets) (h2 : Rd w' B4 u.frames) (h3 : FreeV w') => chainOfI_c u A4 c4 B4 d4 a l0 w' h1 h2 HUOK.out HBA.out HCHA.out (by omega) h3)
  unfold TabOr at C1 C6
  unfold ChainTwo at C5
  unfold KeysAre at CK
  dsimp only at C1 C6
  clear hok e2 hlf hlb hba hag hlen hun hlr hu e3 huok hcha
  go_wp2_with fail
  refine name_calls ?_; intro v1 hv1
  have X1 : Hid (Chg (0) (0) w0 v1) := Lib.hid (by rw [hv1]; repeat' (first | with_reducible exact Chg.refl _ _ _ | with_reducible refine Chg.alloc ?_ _ | with_reducible refine Chg.drew ?_ | with_reducible refine Chg.set ?_ (by omega) _))
  have t1 : w0.heap.size ≤ v1.heap.size := X1.out.size
  have Ev1 : Hid (Ex w v1) := Lib.hid (Ew0.out.chg X1.out (by omega))
  replace HFA := Lib.hid (HFA.out.chg X1.out WHFA.out (by omega))
  replace HFB := Lib.hid (HFB.out.chg X1.out WHFB.out (by omega))
  have KT : Hid (Blk v1 (w0.heap.size) 26 [.slice A0 t.buckets.length c0, .slice B0 t.frames.length d0]) := Lib.hid (by rw [hv1]; repeat' (first | with_reducible exact Blk.new_at _ _ _ (by simp) | with_reducible refine Blk.alloc ?_ _ | with_reducible refine Blk.drew ?_ | with_reducible refine Blk.far ?_ (by simp; omega) _))
  have lT : w0.heap.size < v1.heap.size := KT.out.lt
  clear hv1
  refine (CI.out _ X1.out.ex_).mono ?_; rintro r w1 ⟨A1, c1, B1, d1, rfl, hfc, hfd, hb1⟩
  have Y1 : Hid (Chg 0 0 v1 w1) := Lib.hid (Chg.of_ex hb1)
  have s1 : v1.heap.size ≤ w1.heap.size := Y1.out.size
  have Ew1 : Hid (Ex w w1) := Lib.hid (Ev1.out.chg Y1.out (by omega))
  clear hb1
  replace KT := Lib.hid (KT.out.chg Y1.out (by omega))
  replace HFA := Lib.hid (HFA.out.chg Y1.out WHFA.out (by omega))
  replace HFB := Lib.hid (HFB.out.chg Y1.out WHFB.out (by omega))
  have HFC := Lib.hid hfc; clear hfc
  have WHFC := Lib.hid HFC.out.row
  have HFD := Lib.hid hfd; clear hfd
  have WHFD := Lib.hid HFD.out.row
  obtain ⟨qT0, qT1⟩ := KT.out.c2
  have jT := KT.out.lt
  go_wp2_with fail
  refine name_calls ?_; intro v2 hv2
  have X2 : Hid (Chg (0) (0) w1 v2) := Lib.hid (by rw [hv2]; repeat' (first | with_reducible exact Chg.refl _ _ _ | with_reducible refine Chg.alloc ?_ _ | with_reducible refine Chg.drew ?_ | with_reducible refine Chg.set ?_ (by omega) _))
  have t2 : w1.heap.size ≤ v2.heap.size := X2.out.size
  have Ev2 : Hid (Ex w v2) := Lib.hid (Ew1.out.chg X2.out (by omega))
  clear qT0 qT1 jT
  replace KT := Lib.hid (KT.out.chg X2.out (by omega))
  replace HFA := Lib.hid (HFA.out.chg X2.out WHFA.out (by omega))
  replace HFB := Lib.hid (HFB.out.chg X2.out WHFB.out (by omega))
  replace HFC := Lib.hid (HFC.out.chg X2.out WHFC.out (by omega))
  replace HFD := Lib.hid (HFD.out.chg X2.out WHFD.out (by omega))
  have KX : Hid (Blk v2 (w1.heap.size) 26 [.slice A1 x.buckets.length c1, .slice B1 x.frames.length d1]) := Lib.hid (by rw [hv2]; repeat' (first | with_reducible exact Blk.new_at _ _ _ (by simp) | with_reducible refine Blk.alloc ?_ _ | with_reducible refine Blk.drew ?_ | with_reducible refine Blk.far ?_ (by simp; omega) _))
  have lX : w1.heap.size < v2.heap.size := KX.out.lt
  clear hv2
  refine (CS.out _ (X1.out.ex_.trans (Y1.out.ex_.trans X2.out.ex_))).mono ?_; rintro r w2 ⟨A2, c2, B2, d2, rfl, hfe, hff, hb2⟩
  have Y2 : Hid (Chg 0 0 v2 w2) := Lib.hid (Chg.of_ex hb2)
  have s2 : v2.heap.size ≤ w2.heap.size := Y2.out.size
  have Ew2 : Hid (Ex w w2) := Lib.hid (Ev2.out.chg Y2.out (by omega))
  clear hb2
  replace KT := Lib.hid (KT.out.chg Y2.out (by omega))
  replace KX := Lib.hid (KX.out.chg Y2.out (by omega))
  replace HFA := Lib.hid (HFA.out.chg Y2.out WHFA.out (by omega))
  replace HFB := Lib.hid (HFB.out.chg Y2.out WHFB.out (by omega))
  replace HFC := Lib.hid (HFC.out.chg Y2.out WHFC.out (by omega))
  replace HFD := Lib.hid (HFD.out.chg Y2.out WHFD.out (by omega))
  have HFE := Lib.hid hfe; clear hfe
  have WHFE := Lib.hid HFE.out.row
  have HFF := Lib.hid hff; clear hff
  have WHFF := Lib.hid HFF.out.row
  obtain ⟨qT0, qT1⟩ := KT.out.c2
  have jT := KT.out.lt
  obtain ⟨qX0, qX1⟩ := KX.out.c2
  have jX := KX.out.lt
  go_wp2_with fail
  refine name_calls ?_; intro v3 hv3
  have X3 : Hid (Chg (0) (0) w2 v3) := Lib.hid (by rw [hv3]; repeat' (first | with_reducible exact Chg.refl _ _ _ | with_reducible refine Chg.alloc ?_ _ | with_reducible refine Chg.drew ?_ | with_reducible refine Chg.set ?_ (by omega) _))
  have t3 : w2.heap.size ≤ v3.heap.size := X3.out.size
  have Ev3 : Hid (Ex w v3) := Lib.hid (Ew2.out.chg X3.out (by omega))
  clear qT0 qT1 jT
  clear qX0 qX1 jX
  replace KT := Lib.hid (KT.out.chg X3.out (by omega))
  replace KX := Lib.hid (KX.out.chg X3.out (by omega))
  replace HFA := Lib.hid (HFA.out.chg X3.out WHFA.out (by omega))
  replace HFB := Lib.hid (HFB.out.chg X3.out WHFB.out (by omega))
  replace HFC := Lib.hid (HFC.out.chg X3.out WHFC.out (by omega))
  replace HFD := Lib.hid (HFD.out.chg X3.out WHFD.out (by omega))
  replace HFE := Lib.hid (HFE.out.chg X3.out WHFE.out (by omega))
  replace HFF := Lib.hid (HFF.out.chg X3.out WHFF.out (by omega))
  have KY : Hid (Blk v3 (w2.heap.size) 26 [.slice A2 x.buckets.length c2, .slice B2 x.frames.length d2]) := Lib.hid (by rw [hv3]; repeat' (first | with_reducible exact Blk.new_at _ _ _ (by simp) | with_reducible refine Blk.alloc ?_ _ | with_reducible refine Blk.drew ?_ | with_reducible refine Blk.far ?_ (by simp; omega) _))
  have lY : w2.heap.size < v3.heap.size := KY.out.lt
  clear hv3
  refine (CT.out A1 c1 B1 d1 A2 c2 B2 d2 _ HFC.out.rd HFD.out.rd HFE.out.rd HFF.out.rd).mono ?_; rintro r w3 ⟨rfl, hb3⟩
  have Y3 : Hid (Chg 0 0 v3 w3) := Lib.hid (Chg.of_ex hb3)
  have s3 : v3.heap.size ≤ w3.heap.size := Y3.out.size
  have Ew3 : Hid (Ex w w3) := Lib.hid (Ev3.out.chg Y3.out (by omega))
  clear hb3
  replace KT := Lib.hid (KT.out.chg Y3.out (by omega))
  replace KX := Lib.hid (KX.out.chg Y3.out (by omega))
  replace KY := Lib.hid (KY.out.chg Y3.out (by omega))
  replace HFA := Lib.hid (HFA.out.chg Y3.out WHFA.out (by omega))
  replace HFB := Lib.hid (HFB.out.chg Y3.out WHFB.out (by omega))
  replace HFC := Lib.hid (HFC.out.chg Y3.out WHFC.out (by omega))
  replace HFD := Lib.hid (HFD.out.chg Y3.out WHFD.out (by omega))
  replace HFE := Lib.hid (HFE.out.chg Y3.out WHFE.out (by omega))
  replace HFF := Lib.hid (HFF.out.chg Y3.out WHFF.out (by omega))
  obtain ⟨qT0, qT1⟩ := KT.out.c2
  have jT := KT.out.lt
  obtain ⟨qX0, qX1⟩ := KX.out.c2
  have jX := KX.out.lt
  obtain ⟨qY0, qY1⟩ := KY.out.c2
  have jY := KY.out.lt
  go_wp2_with fail
  refine name_calls ?_; intro v4 hv4
  have X4 : Hid (Chg (0) (0) w3 v4) := Lib.hid (by rw [hv4]; repeat' (first | with_reducible exact Chg.refl _ _ _ | with_reducible refine Chg.alloc ?_ _ | with_reducible refine Chg.drew ?_ | with_reducible refine Chg.set ?_ (by omega) _))
  have t4 : w3.heap.size ≤ v4.heap.size := X4.out.size
  have Ev4 : Hid (Ex w v4) := Lib.hid (Ew3.out.chg X4.out (by omega))
  clear qT0 qT1 jT
  clear qX0 qX1 jX
  clear qY0 qY1 jY
  replace KT := Lib.hid (KT.out.chg X4.out (by omega))
  replace KX := Lib.hid (KX.out.chg X4.out (by omega))
  replace KY := Lib.hid (KY.out.chg X4.out (by omega))
  replace HFA := Lib.hid (HFA.out.chg X4.out WHFA.out (by omega))
  replace HFB := Lib.hid (HFB.out.chg X4.out WHFB.out (by omega))
  replace HFC := Lib.hid (HFC.out.chg X4.out WHFC.out (by omega))
  replace HFD := Lib.hid (HFD.out.chg X4.out WHFD.out (by omega))
  replace HFE := Lib.hid (HFE.out.chg X4.out WHFE.out (by omega))
  replace HFF := Lib.hid (HFF.out.chg X4.out WHFF.out (by omega))
  clear hv4
  refine (C1.out _ (X1.out.ex_.trans (Y1.out.ex_.trans (X2.out.ex_.trans (Y2.out.ex_.trans (X3.out.ex_.trans (Y3.out.ex_.trans X4.out.ex_))))))).mono ?_; rintro r w4 ⟨A4, c4, B4, d4, rfl, hfg, hfh, hb4⟩
  have Y4 : Hid (Chg 0 0 v4 w4) := Lib.hid (Chg.of_ex hb4)
  have s4 : v4.heap.size ≤ w4.heap.size := Y4.out.size
  have Ew4 : Hid (Ex w w4) := Lib.hid (Ev4.out.chg Y4.out (by omega))
  clear hb4
  replace KT := Lib.hid (KT.out.chg Y4.out (by omega))
  replace KX := Lib.hid (KX.out.chg Y4.out (by omega))
  replace KY := Lib.hid (KY.out.chg Y4.out (by omega))
  replace HFA := Lib.hid (HFA.out.chg Y4.out WHFA.out (by omega))
  replace HFB := Lib.hid (HFB.out.chg Y4.out WHFB.out (by omega))
  replace HFC := Lib.hid (HFC.out.chg Y4.out WHFC.out (by omega))
  replace HFD := Lib.hid (HFD.out.chg Y4.out WHFD.out (by omega))
  replace HFE := Lib.hid (HFE.out.chg Y4.out WHFE.out (by omega))
  replace HFF := Lib.hid (HFF.out.chg Y4.out WHFF.out (by omega))
  have HFG := Lib.hid hfg; clear hfg
  have WHFG := Lib.hid HFG.out.row
  have HFH := Lib.hid hfh; clear hfh
  have WHFH := Lib.hid HFH.out.row
  obtain ⟨qT0, qT1⟩ := KT.out.c2
  have jT := KT.out.lt
  obtain ⟨qX0, qX1⟩ := KX.out.c2
  have jX := KX.out.lt
  obtain ⟨qY0, qY1⟩ := KY.out.c2
  have jY := KY.out.lt
  go_wp2_with fail
  refine name_calls ?_; intro v5 hv5
  have X5 : Hid (Chg (0) (0) w4 v5) := Lib.hid (by rw [hv5]; repeat' (first | with_reducible exact Chg.refl _ _ _ | with_reducible refine Chg.alloc ?_ _ | with_reducible refine Chg.drew ?_ | with_reducible refine Chg.set ?_ (by omega) _))
  have t5 : w4.heap.size ≤ v5.heap.size := X5.out.size
  have Ev5 : Hid (Ex w v5) := Lib.hid (Ew4.out.chg X5.out (by omega))
  clear qT0 qT1 jT
  clear qX0 qX1 jX
  clear qY0 qY1 jY
  replace KT := Lib.hid (KT.out.chg X5.out (by omega))
  replace KX := Lib.hid (KX.out.chg X5.out (by omega))
  replace KY := Lib.hid (KY.out.chg X5.out (by omega))
  replace HFA := Lib.hid (HFA.out.chg X5.out WHFA.out (by omega))
  replace HFB := Lib.hid (HFB.out.chg X5.out WHFB.out (by omega))
  replace HFC := Lib.hid (HFC.out.chg X5.out WHFC.out (by omega))
  replace HFD := Lib.hid (HFD.out.chg X5.out WHFD.out (by omega))
  replace HFE := Lib.hid (HFE.out.chg X5.out WHFE.out (by omega))
  replace HFF := Lib.hid (HFF.out.chg X5.out WHFF.out (by omega))
  replace HFG := Lib.hid (HFG.out.chg X5.out WHFG.out (by omega))
  replace HFH := Lib.hid (HFH.out.chg X5.out WHFH.out (by omega))
  have KO : Hid (Blk v5 (w4.heap.size) 26 [.slice A4 u.buckets.length c4, .slice B4 u.frames.length d4]) := Lib.hid (by rw [hv5]; repeat' (first | with_reducible exact Blk.new_at _ _ _ (by simp) | with_reducible refine Blk.alloc ?_ _ | with_reducible refine Blk.drew ?_ | with_reducible refine Blk.far ?_ (by simp; omega) _))
  have lO : w4.heap.size < v5.heap.size := KO.out.lt
  clear hv5
  refine (C5.out A4 c4 B4 d4 _ HFG.out.rd HFH.out.rd (HV.out.ex Ev5.out)).mono ?_; rintro r w5 ⟨A5, rfl, hhr5, hb5⟩
  have Y5 : Hid (Chg 0 0 v5 w5) := Lib.hid (Chg.of_ex hb5)
  have s5 : v5.heap.size ≤ w5.heap.size := Y5.out.size
  have Ew5 : Hid (Ex w w5) := Lib.hid (Ev5.out.chg Y5.out (by omega))
  clear hb5
  replace KT := Lib.hid (KT.out.chg Y5.out (by omega))
  replace KX := Lib.hid (KX.out.chg Y5.out (by omega))
  replace KY := Lib.hid (KY.out.chg Y5.out (by omega))
  replace KO := Lib.hid (KO.out.chg Y5.out (by omega))
  replace HFA := Lib.hid (HFA.out.chg Y5.out WHFA.out (by omega))
  replace HFB := Lib.hid (HFB.out.chg Y5.out WHFB.out (by omega))
  replace HFC := Lib.hid (HFC.out.chg Y5.out WHFC.out (by omega))
  replace HFD := Lib.hid (HFD.out.chg Y5.out WHFD.out (by omega))
  replace HFE := Lib.hid (HFE.out.chg Y5.out WHFE.out (by omega))
  replace HFF := Lib.hid (HFF.out.chg Y5.out WHFF.out (by omega))
  replace HFG := Lib.hid (HFG.out.chg Y5.out WHFG.out (by omega))
  replace HFH := Lib.hid (HFH.out.chg Y5.out WHFH.out (by omega))
  have HHR5 := Lib.hid hhr5; clear hhr5
  obtain ⟨qT0, qT1⟩ := KT.out.c2
  have jT := KT.out.lt
  obtain ⟨qX0, qX1⟩ := KX.out.c2
  have jX := KX.out.lt
  obtain ⟨qY0, qY1⟩ := KY.out.c2
  have jY := KY.out.lt
  obtain ⟨qO0, qO1⟩ := KO.out.c2
  have jO := KO.out.lt
  have E05 : Hid (Ex w0 w5) := Lib.hid (X1.out.ex_.trans (Y1.out.ex_.trans (X2.out.ex_.trans (Y2.out.ex_.trans (X3.out.ex_.trans (Y3.out.ex_.trans (X4.out.ex_.trans (Y4.out.ex_.trans (X5.out.ex_.trans Y5.out.ex_)))))))))
  have KTS := KT
  have KOS := KO
  have KXS := KX
  have HXS : Hid (∀ w', Ex w5 w' → Rd w' A1 x.buckets ∧ Rd w' B1 x.frames) := Lib.hid (fun w' h => ⟨HFC.out.rd.ex h, HFD.out.rd.ex h⟩)
  have HUS : Hid (∀ w', Ex w5 w' → Rd w' A4 u.buckets ∧ Rd w' B4 u.frames) := Lib.hid (fun w' h => ⟨HFG.out.rd.ex h, HFH.out.rd.ex h⟩)
  have HV5 : Hid (FreeV w5) := Lib.hid (HV.out.ex Ew5.out)
  clear qT0 qT1 jT
  clear qX0 qX1 jX
  clear qY0 qY1 jY
  clear qO0 qO1 jO
  go_wp2
  go_loopw [13] (fun i wr => ∃ k : Nat, i = .int .i64 (k + 1 : Nat) ∧ Ex w5 wr) (fun i _ => l0.length - (intOf i).toNat)
  case atStart => exact ⟨0, rfl, Ex.refl _⟩
  case round =>
    obtain ⟨k, rfl, hw⟩ := hrel
    have HW := Lib.hid hw
    clear hw
    by_cases hlt : k + 1 < l0.length
    · obtain ⟨b3, o3, y, rfl, hb3, hy, g0⟩ := (HHR5.out.ex HW.out).int (k := k + 1) (by rw [nums_len]; omega)
      obtain ⟨b4, o4, z, e4, hb4, hz, g1⟩ := (HHR5.out.ex HW.out).int (k := k) (by rw [nums_len]; omega)
      cases e4
      have hyz : y < z := by
        rw [nums_at] at hy hz
        obtain ⟨y', hy1, hy2⟩ := Option.map_eq_some_iff.1 hy
        obtain ⟨z', hz1, hz2⟩ := Option.map_eq_some_iff.1 hz
        have := hdn.out k z' y' hz1 hy1
        omega
      have hyz1 : ¬ z ≤ y := by omega
      have hyz2 : decide (z ≤ y) = false := by simp; omega
      have e1 : ((k + 1 : Nat) : Int) - 1 = (k : Int) := by omega
      have e2 : (k : Int) + 1 - 1 = (k : Int) := by omega
      have f1 : ((k : Int) + 1) < (l0.length : Int) := by omega
      have f2 : (k : Int) < (l0.length : Int) := by omega
      have f3 : (0 : Int) ≤ (k : Int) + 1 := by omega
      have f4 : (0 : Int) ≤ (k : Int) := by omega
      clear hy hz hyz
      go_wp2_with fail
      go_quiet (fail)
      go_wp2
      go_roundw
      case rel => exact ⟨k + 1, by go_num, by first | exact HW.out.drewN _ | exact HW.out.drew | exact HW.out⟩
      case measure => simp [intOf]; omega
    · have hge : ¬ ((k : Int) + 1 < (l0.length : Int)) := by omega
      have E0 := Lib.hid (E05.out.trans HW.out)
      obtain ⟨o0, o1⟩ := (KOS.out.ex HW.out).c2
      have ol := (KOS.out.ex HW.out).lt
      go_wp2_with fail
      refine (C6.out A4 c4 B4 d4 _ (HUS.out _ HW.out).1 (HUS.out _ HW.out).2 (HV5.out.ex HW.out)).mono ?_
      rintro r w7 ⟨A7, c7, B7, d7, rfl, hf7, hf7b, hb7⟩
      have HA7 := Lib.hid hf7.rd
      have HB7 := Lib.hid hf7b.rd
      have E7 := Lib.hid (HW.out.trans hb7)
      clear o0 o1 ol hf7 hf7b hb7
      obtain ⟨o0, o1⟩ := (KTS.out.ex E7.out).c2
      have ol := (KTS.out.ex E7.out).lt
      go_wp2_with fail
      refine (CK.out _ ((E05.out.trans E7.out).alloc _)).mono ?_
      rintro r w8 ⟨A8, rfl, hb8⟩
      have K8 : Hid (Blk w8 w7.heap.size 26 [.slice A7 x.buckets.length c7, .slice B7 x.frames.length d7]) := Lib.hid ((Blk.new w7 26 [.slice A7 x.buckets.length c7, .slice B7 x.frames.length d7]).ex hb8)
      have E8 := Lib.hid ((E7.out.alloc _).trans hb8)
      have E78 := Lib.hid (((Ex.refl w7).alloc _).trans hb8)
      clear o0 o1 ol hb8
      obtain ⟨o0, o1⟩ := K8.out.c2
      obtain ⟨p0, p1⟩ := (KXS.out.ex E8.out).c2
      have ol := K8.out.lt
      have pl := (KXS.out.ex E8.out).lt
      go_wp2_with fail
      refine (CT.out A7 c7 B7 d7 A1 c1 B1 d1 _ (HA7.out.ex E78.out) (HB7.out.ex E78.out) (HXS.out _ E8.out).1 (HXS.out _ E8.out).2).mono ?_
      rintro r w9 ⟨rfl, hb9⟩
      go_wp2
      go_ret
      exact ⟨rfl, (Ew5.out.trans E8.out).trans hb9⟩
end Go.Proofs.YtbdlpbladpppjaaDoor
/- What the door's rows give the walks: the listed variable reads as the program's text lays it. -/
namespace Go.Proofs.YtbdlpbladpppjaaDoor
open Go.ChangeShapes Go.WideShapes Go.ChangeAt Go.WideMaps Go.WideElems Go.RowKit
open Rec (sz cs)
set_option linter.unusedVariables false
set_option maxRecDepth 100000

def laidL {H : Type} : List (String × DataW H) := [("loop.example/invertedpages/impl.free", Rows.laid_loop_example_invertedpages_impl_free)]
theorem gFree : Tryd.prog.globalNamed "loop.example/invertedpages/impl.free" = some 0 := by kernel_rfl
theorem tFree : (Tryd.prog.globals[0]?).map (·.type) = some 47 := by kernel_rfl

/-- The door's own heap meets the condition. -/
theorem door_met (os : Os) (args : Array Value) : laidMetH Tryd.prog laidL ((World.doorLaid Tryd.prog 14 os).forCall (fun _ _ => 0) ⟨#[], args, []⟩).memory :=
  laidMetH_of_parts3 (fuel := 8) (laidMet_of_run' 8 (by kernel_rfl) (by kernel_rfl)) (by kernel_rfl) (by kernel_rfl)

theorem fields_door {H : Type} {enc : TypeId × Value → H} {P : Program} {w : World} {base : Nat} {spare : Nat → Bool} {held : Bool} {t : TypeId} {fs : Array Field} {fuel : Nat} {cs : List Value} {x : DataW H × List MemPlace} (ht : P.underlying t = some (.struct fs)) (h : DataW.trod enc P w base spare held fuel t cs = some x) :
    ∃ xs : List (DataW H × List MemPlace), x.1 = .agg (xs.map (·.1)) ∧ cs.length = P.cellsOf t ∧ xs.length = fs.size ∧ ∃ n, ∀ (j : Nat) (f : Field), fs[j]? = some f → DataW.trod enc P w base spare held n f.type ((cs.drop f.offset).take (P.cellsOf f.type)) = xs[j]? := by
  obtain ⟨xs, n, _, e, hl, hlen, hf⟩ := DataW.trod_struct ht h
  exact ⟨xs, by rw [e], hl, hlen, n, hf⟩

theorem free_of_laid {W : World} (h : laidMetH Tryd.prog laidL W) : FreeV W := by
  rw [MakeChecks.laidMetH_plain _ _ _ (by kernel_rfl)] at h
  obtain ⟨ps, ⟨g0, t0, cs0, f0, p0, q0, hg0, ht0, hv0, hd0, _, _⟩, _, _⟩ := h
  obtain rfl := Option.some.inj (gFree.symm.trans hg0)
  obtain rfl := Option.some.inj (tFree.symm.trans ht0)
  obtain ⟨xs, hx, hl, hlen, n, hf⟩ := fields_door Tryd.underlying47 hd0
  have k1 : Tryd.prog.cellsOf 3 = 1 := by kernel_rfl
  have k2 : Tryd.prog.cellsOf 4 = 1 := by kernel_rfl
  have k3 : Tryd.prog.cellsOf 45 = 2 := by kernel_rfl
  have k4 : Tryd.prog.cellsOf 47 = 5 := by kernel_rfl
  rw [k4] at hl
  have hcell : ∀ j, W.cell? ⟨0, j, none⟩ = cs0[j]? := fun j => World.var?_cell hg0 hv0 j
  have hcl : ∀ j, cs0[j]? = cs0.toList[j]? := fun j => Array.getElem?_toList.symm
  match hcs : cs0.toList, hl, xs, hlen, hx, hf with
  | [v0, v1, v2, v3, v4], _, [x0, x1, x2, x3], _, hx, hf =>
    have h0 := hf 0 _ rfl
    have h1 := hf 1 _ rfl
    have h2 := hf 2 _ rfl
    have h3 := hf 3 _ rfl
    simp [k1, k2, k3] at h0 h1 h2 h3
    simp only [Rows.laid_loop_example_invertedpages_impl_free, List.map_cons, List.map_nil, DataW.agg.injEq, List.cons.injEq, and_true] at hx
    obtain ⟨e0, e1, e2, e3⟩ := hx
    obtain ⟨b0, c0, d0⟩ := DataW.trod_bool Tryd.underlying4 h0
    obtain ⟨n2, c2, d2, _⟩ := DataW.trod_int Tryd.underlying3 h2
    obtain ⟨n3, c3, d3, _⟩ := DataW.trod_int Tryd.underlying3 h3
    obtain ⟨ys, hy, hyl, hylen, m, hg⟩ := fields_door Tryd.underlying45 h1
    match ys, hylen, hy, hg with
    | [y0, y1], _, hy, hg =>
      have g0 := hg 0 _ rfl
      have g1 := hg 1 _ rfl
      simp [k1] at g0 g1
      obtain ⟨m0, c4, d4, _⟩ := DataW.trod_int Tryd.underlying3 g0
      obtain ⟨m1, c5, d5, _⟩ := DataW.trod_int Tryd.underlying3 g1
      rw [hy] at e1
      simp only [List.map_cons, List.map_nil, DataW.agg.injEq, List.cons.injEq, and_true] at e1
      rw [d0] at e0
      rw [d2] at e2
      rw [d3] at e3
      rw [d4, d5] at e1
      simp at e0 e1 e2 e3 c0 c2 c3 c4 c5
      have z0 : W.cell? ⟨0, 0, none⟩ = some (.bool false) := by rw [hcell, hcl, hcs]; simp_all
      refine ⟨block_lt_of_cell z0, z0, ?_, ?_, ?_, ?_⟩
      · rw [hcell, hcl, hcs]; first | (simp_all; done) | (simp_all; omega)
      · rw [hcell, hcl, hcs]; first | (simp_all; done) | (simp_all; omega)
      · rw [hcell, hcl, hcs]; first | (simp_all; done) | (simp_all; omega)
      · rw [hcell, hcl, hcs]; first | (simp_all; done) | (simp_all; omega)
end Go.Proofs.YtbdlpbladpppjaaDoor
/- Opening an argument that is a slice of bytes. -/
namespace Go.Proofs.YtbdlpbladpppjaaDoor
open Go.ChangeShapes Go.WideShapes Go.ChangeAt Go.RowKit
open Rec (sz cs)
set_option linter.unusedVariables false
set_option maxRecDepth 100000
section
variable {H : Type} {enc : TypeId × Value → H} {w : World} {base b0 : Nat} {spare : Nat → Bool} {held : Bool} {r : Reach}
theorem byte_wf {n : Int} (h : (Lit.int .u8 n).wf = true) : 0 ≤ n ∧ n ≤ 255 := by
  have := bounds_u8 h
  omega
theorem open_bytes {v : Value} {d : DataW H} {p : List MemPlace} (hv : Value.okWide Tryd.prog w r b0 22 v) (h : DataW.Trod enc Tryd.prog w base spare held 22 v d p) :
    ∃ (A : Option Addr) (n c : Nat) (xs : List ByteD), v = .slice A n c ∧ Rd w A xs ∧ (Bytes xs ∧ xs.length = n ∧ n ≤ c ∧ c ≤ maxLen) := by
  obtain ⟨a0, len, cap, rfl⟩ := okWide_slice Tryd.underlying22 hv
  obtain ⟨fuel, hf⟩ := h
  rcases open_ints Tryd.underlying22 Tryd.underlying5 (by kernel_rfl) hf with ⟨hcs, _⟩ | ⟨x, l, c, zs, hcs, _, hl, hm, hz, _, hcell, hwz⟩
  · simp [Value.cells] at hcs
    obtain ⟨rfl, rfl, rfl⟩ := hcs
    exact ⟨none, 0, 0, [], rfl, Rd.nil _ _, by intro b hb; simp at hb, rfl, Nat.le_refl _, Nat.zero_le _⟩
  · simp [Value.cells] at hcs
    obtain ⟨rfl, rfl, rfl⟩ := hcs
    have hzl : len ≤ zs.length := by rw [hz]; split <;> omega
    obtain ⟨xs, hx, hr⟩ := rd_build (α := ByteD) (w := w) x len (fun i hi => ⟨⟨zs.getD i 0⟩, fun j u hu => by
      match j, hu with
      | 0, hu =>
        simp [cs] at hu
        subst hu
        have := hcell i (by omega)
        show w.cell? (x.add (i * 1 + 0)) = _
        rw [Nat.mul_one, Nat.add_zero]
        exact this
      | j + 1, hu => simp [cs] at hu⟩)
    refine ⟨some x, len, cap, xs, rfl, hr, ?_, hx, hl, hm⟩
    intro b hb
    obtain ⟨i, hi, rfl⟩ := List.getElem_of_mem hb
    obtain ⟨b', o', y, e, _, hy, hc⟩ := Rd.byte hr (k := i) hi
    injection e with e
    subst e
    have h2 := hcell i (by omega)
    have ha : (⟨b', o', none⟩ : Addr).add i = ⟨b', o' + i, none⟩ := by unfold Addr.add; split <;> simp_all
    rw [ha, hc] at h2
    injection h2 with h2
    injection h2 with _ h2
    rw [List.getElem?_eq_getElem hi] at hy
    injection hy with hy
    rw [hy, h2]
    have hmem : zs.getD i 0 ∈ zs := by
      rw [List.getD_eq_getElem?_getD, List.getElem?_eq_getElem (by omega)]
      exact List.getElem_mem _
    exact byte_wf (hwz _ hmem)
end
end Go.Proofs.YtbdlpbladpppjaaDoor
/- Whatever the code, the law FnRehashOne returns true, and its argument and the listed variable read as before; the variable starts as the program lays it (tied). -/
namespace Go.Proofs.YtbdlpbladpppjaaDoor
open Go.ChangeShapes Go.WideShapes Go.ChangeAt Go.WideMaps Go.WideElems Go.RowKit
set_option linter.unusedVariables false

set_option maxRecDepth 100000 in
theorem lifted_FnRehashOne (os : Os) (started : os.Started) (H : Type) (enc : TypeId × Value → H) :
    ReturnsInHanded {} Tryd.checked os 3 .any (fun w args => (Rows.fnRehashOneSpec.pre enc Tryd.prog Tryd.f3 [] false w args ∧ laidMetH Tryd.prog laidL w) ∧ sizedMet enc Tryd.prog Tryd.f3 (OpenSpec.ofChange Rows.fnRehashOneSpec) false w args)
      (Rows.fnRehashOneSpec.post enc Tryd.prog Tryd.f3 false true false false) := by
  refine returnsInHanded_of_change_and (C := Tryd.checked) (X := fun w _ => laidMetH Tryd.prog laidL w) (fun _ _ _ hh h => h.of_heap hh) ownRow started (by kernel_rfl) Tryd.func3
    (ChangeSpec.witness_shaped (enc := enc) (C := Tryd.checked) (os := os) (X := fun w _ => laidMetH Tryd.prog laidL w) false (World.doorLaid Tryd.prog 14 os) #[.slice none 0 0] 8 rfl (World.shaped_of_RefB (by kernel_rfl) (by kernel_rfl)) (by kernel_rfl) (by kernel_rfl) (by kernel_rfl) (door_met os _)) ?_
  intro W base args ds gs before hval0 hW _ _ hL _
  have hFV := free_of_laid hL
  have hval : ∀ (j : Nat) t v, Tryd.f3.params[j]? = some t → args[j]? = some v → Value.okWide Tryd.prog W .any base t v := hval0
  have hW' := hW
  obtain ⟨p, q, hA0, hV, rfl, hfz, hnd⟩ := hW
  have hA : DataW.TrodAll enc Tryd.prog W 0 (fun _ => true) true Tryd.f3.params.toList args.toList ds p := hA0
  rw [Tryd.params3] at hA hval
  obtain ⟨v0, vs0, d0, ds0, p0, q0, hargs, rfl, rfl, h0, r0⟩ := trodAll_cons hA
  obtain ⟨rfl, rfl, rfl⟩ := trodAll_nil r0
  obtain rfl : args = #[v0] := by cases args; simp_all
  obtain ⟨g9, t9, cs9, fuel9, d9, p9, rfl, -, -, -, -, -⟩ := trodVars_one (show DataW.TrodVars enc Tryd.prog W (fun _ => true) ["loop.example/invertedpages/impl.free"] gs q from hV)
  have k0 := h0
  have lt0 : ∀ x ∈ p0, x.block < W.heap.size := by obtain ⟨m, hm⟩ := k0; exact DataW.trod_lt m _ _ _ hm
  obtain ⟨A0, n0, c0, xs0, rfl, hr0, hc0⟩ := open_bytes (hval 0 22 v0 rfl rfl) h0
  clear hA0 hval0
  refine (walk_FnRehashOne A0 n0 c0 xs0 W hr0 hc0 hFV).mono fun e W' ⟨he, bel⟩ => ?_
  subst he
  exact ⟨_, rfl, _, _, _, [], _, _, hW', trodAll_mk1 (shut_bool Tryd.underlying4 _), (trodAll_cons_mk (Below.trod laidOutRow (by kernel_rfl) (of_decide_eq_true (by kernel_rfl)) k0 bel lt0) trodAll_mk0), Below.trodVars laidOutRow bel (by kernel_rfl) hV, Below.frame bel _, fun h => by cases h⟩

theorem name_FnRehashOne : Tryd.checked.prog.funcNamed Rows.fnRehashOneRow.func = some 3 := by kernel_rfl
theorem closed_FnRehashOne : joinedFacts Tryd.checked.prog 3 Tryd.f3 Rows.fnRehashOneSpec Rows.fnRehashOneRow = true := by
  simp only [joinedFacts, Bool.and_eq_true]
  refine ⟨⟨⟨⟨⟨⟨⟨⟨⟨⟨⟨⟨⟨⟨⟨⟨⟨⟨⟨⟨⟨⟨⟨⟨⟨⟨⟨⟨⟨⟨⟨?_, laidOutRow⟩, progMaps⟩, ?_⟩, ?_⟩, ?_⟩, ?_⟩, ?_⟩, ?_⟩, ?_⟩, ?_⟩, ?_⟩, ?_⟩, ?_⟩, ?_⟩, ?_⟩, ?_⟩, ?_⟩, ?_⟩, ?_⟩, ?_⟩, ?_⟩, ?_⟩, ?_⟩, progHeard⟩, progEnter⟩, (beq_iff_eq.2 progFinal.symm)⟩, (beq_iff_eq.2 progMake)⟩, ?_⟩, ?_⟩, ?_⟩, ?_⟩
  all_goals as_aux_lemma => kernel_rfl
theorem over_FnRehashOne : Rows.fnRehashOneRow.holds Tryd.pinned (OpenSpec.ofChange Rows.fnRehashOneSpec) :=
  OpenClaim.holds_of_wide 3 Tryd.f3 rfl rfl rfl rfl rfl rfl rfl ⟨rfl, rfl, rfl, rfl, rfl⟩ rfl rfl rfl rfl rfl name_FnRehashOne Tryd.func3 closed_FnRehashOne
    (of_decide_eq_true (by kernel_rfl)) (by unfold Func.isWrapper; first | (rw [if_pos (by decide +kernel)]; kernel_rfl) | (rw [if_neg (by decide +kernel)]; exact ⟨rfl, rfl⟩))
    (fun os started H enc _ => lifted_FnRehashOne os started H enc)

theorem FnRehashOne_proved : Rows.FnRehashOneCardSaid :=
  Claim7.holds_tied_plain_at .later [] [.data] true (true, "d1ccb03f82c6c0168d23b68ad5a8ffc9e57c606333ff86a10a3893e9708436ba") false
    over_FnRehashOne (fun _ h => by cases h) (by kernel_rfl) (fun _ h => by cases h) fnRehashOne_row_tie rfl ⟨rfl, rfl⟩ (by kernel_rfl) rfl
    (fun f fn hf hfn => by
      obtain rfl : f = 3 := Option.some.inj (name_FnRehashOne.symm.trans hf) |>.symm
      obtain rfl : fn = Tryd.f3 := (Option.some.inj (Tryd.func3.symm.trans hfn)).symm
      exact ⟨by kernel_rfl, fun j t ht => by
        rw [Tryd.params3] at ht
        have hm : t ∈ [22] := by have := Array.mem_of_getElem? ht; simpa using this
        have hall : ([22].all fun u => !Tryd.prog.wantsStandIn u) = true := by kernel_rfl
        exact (show Tryd.prog.wantsStandIn t = false by simpa using List.all_eq_true.1 hall t hm)⟩)
    (by kernel_rfl)
#print axioms FnRehashOne_proved
end Go.Proofs.YtbdlpbladpppjaaDoor
