/- TableValid of the reference. -/
import Derived.Test.YtihlaecbdlgbiaaDoorVc
import Derived.Test.YtihlaecbdlgbiaaDoorSc
import Derived.Deep.RegionHeld3
import Derived.BigQuiet
namespace Go.Proofs.YtihlaecbdlgbiaaDoor
open Go.ChangeShapes Go.WideShapes Go.ChangeAt Go.RowKit
open Rec (sz cs)
set_option linter.unusedVariables false
set_option maxRecDepth 100000

theorem fieldsKeyV : Tryd.prog.underlying 70 = some (.struct (Tryd.prog.fieldsOf 70)) := by kernel_rfl
theorem heldKeyV : Tryd.prog.stoodInHeld 70 = false := by kernel_rfl
theorem guardKeyV : Tryd.prog.eqGuardType Tryd.prog.depth 70 = false := by kernel_rfl
theorem eqIn_keyV (x y : KeyD) (w : World) : (Op.equalIn 10000 70 (.agg #[.int .i64 x.space, .int .i64 x.page]) (.agg #[.int .i64 y.space, .int .i64 y.page])).run Tryd.prog w = .ok (eqB x y) w := by
  obtain ⟨a, b⟩ := x
  obtain ⟨c, d⟩ := y
  rw [run_equalIn_agg w 9999 _ _ _ fieldsKeyV heldKeyV]
  simp [go_sem, Tryd.underlying70]
  by_cases h1 : a = c <;> by_cases h2 : b = d <;> simp [eqB, h1, h2]
theorem neq_keyV (x y : KeyD) (w : World) : (binOp .neq 70 (.agg #[.int .i64 x.space, .int .i64 x.page]) (.agg #[.int .i64 y.space, .int .i64 y.page])).run Tryd.prog w = .ok (.bool (!eqB x y)) w := by
  rw [run_neq_struct, eqIn_keyV]; rfl
theorem eql_keyV (x y : KeyD) (w : World) : (binOp .eql 70 (.agg #[.int .i64 x.space, .int .i64 x.page]) (.agg #[.int .i64 y.space, .int .i64 y.page])).run Tryd.prog w = .ok (.bool (eqB x y)) w := by
  rw [run_eql_struct, eqIn_keyV]; rfl
theorem usedN_le (fs : List FrameD) (k : Nat) : usedN fs k ≤ k := by
  unfold usedN
  exact Nat.le_trans (List.length_filter_le _ _) (by rw [List.length_take]; omega)

set_option maxHeartbeats 4000000 in
theorem tableS_c (t : TableD) (A : Option Addr) (c : Nat) (B : Option Addr) (d : Nat) (w : World) (hx : Rd w A t.buckets) (hy : Rd w B t.frames) (hn : t.buckets.length ≤ 1048576) (hm : t.frames.length ≤ 1048576) :
    Calls Tryd.prog 21 #[.agg #[.slice A t.buckets.length c, .slice B t.frames.length d]] w fun r w' => r = .returned (.bool (tableV t)) ∧ Ex w w' := by
  have CB := Lib.hid (fun w => l2Buckets_c (t.buckets.length : Int) w)
  by_cases hh : TableHead t
  rotate_left
  · rw [tableV_no (fun h => hh h.1)]
    have h3 : t.frames.length < 1 ∨ 16 < t.frames.length ∨ ((1 ≤ t.frames.length ∧ t.frames.length ≤ 16) ∧ bkB (t.buckets.length : Int) = false) := by
      unfold TableHead at hh
      by_cases g : 1 ≤ t.frames.length ∧ t.frames.length ≤ 16
      · exact .inr (.inr ⟨g, bkB_not.2 (by omega)⟩)
      · omega
    generalize t.frames.length = n at h3 hm ⊢
    generalize t.buckets.length = m at CB hn h3 ⊢
    clear hh hx hy
    rcases h3 with h1 | h1 | ⟨⟨h1, h2⟩, h3⟩
    · go_enter Tryd.func21, Tryd.ntmps21
      go_wp2
      go_ret
      exact ⟨rfl, (by repeat' (first | with_reducible exact Ex.refl _ | with_reducible refine Ex.alloc ?_ _ | with_reducible refine Ex.drew ?_ | with_reducible refine Ex.put ?_ (by omega) _))⟩
    · go_enter Tryd.func21, Tryd.ntmps21
      go_wp2
      go_ret
      exact ⟨rfl, (by repeat' (first | with_reducible exact Ex.refl _ | with_reducible refine Ex.alloc ?_ _ | with_reducible refine Ex.drew ?_ | with_reducible refine Ex.put ?_ (by omega) _))⟩
    · rw [h3] at CB
      clear h3
      go_enter Tryd.func21, Tryd.ntmps21
      go_wp2_with fail
      refine (CB.out _).mono ?_
      rintro r w1 ⟨rfl, rfl⟩
      go_wp2
      go_ret
      exact ⟨rfl, (by repeat' (first | with_reducible exact Ex.refl _ | with_reducible refine Ex.alloc ?_ _ | with_reducible refine Ex.drew ?_ | with_reducible refine Ex.put ?_ (by omega) _))⟩
  rw [show bkB (t.buckets.length : Int) = true from bkB_iff.2 (by unfold TableHead at hh; omega)] at CB
  have HH := Lib.hid hh
  obtain ⟨⟨hn1, hn2⟩, hm1, hm2⟩ := hh
  have HX := Lib.hid hx
  have HY := Lib.hid hy
  obtain ⟨n, en⟩ : ∃ n, n = t.frames.length := ⟨_, rfl⟩
  obtain ⟨m, em⟩ : ∃ m, m = t.buckets.length := ⟨_, rfl⟩
  have HN := Lib.hid en
  have HM := Lib.hid em
  rw [← en] at hn1 hn2 ⊢
  rw [← em] at hm1 hm2 CB ⊢
  have HNO : Hid (∀ w', Ex w w' → ¬ TableOk t → (Ending.returned (.bool false) = .returned (.bool (tableV t)) ∧ Ex w w')) := Lib.hid (fun w' h1 h2 => ⟨ret_bool (tableV_no h2).symm, h1⟩)
  have CC := Lib.hid (fun b a0 w h1 h2 hb => l3Chain_c t A c B d b a0 w h1 h2 hb hn hm)
  rw [← en, ← em] at CC
  have CES : Hid (∀ (args : Array Value) (w : World), (callFunc 51 args).run Tryd.prog w = .ok (.enter 51 args) w) := Lib.hid (enters Tryd.func51 (by kernel_rfl) (by kernel_rfl))
  clear hx hy hn hm en em
  go_enter Tryd.func21, Tryd.ntmps21
  go_wp2_with fail
  refine (CB.out _).mono ?_
  rintro r w1 ⟨rfl, rfl⟩
  clear CB
  go_wp2
  go_loopw [3, 4] (fun u i wr => ∃ k : Nat, k ≤ n ∧ i = .int .i64 k ∧ u = .int .i64 (usedN t.frames k) ∧ FramesUp t.frames k ∧ Blk wr w.heap.size 38 [.slice A m c, .slice B n d] ∧ Ex w wr) (fun _ i _ => n - (intOf i).toNat)
  case atStart => exact ⟨0, Nat.zero_le _, rfl, rfl, framesUp_zero _, Blk.new _ _ _, (Ex.refl _).alloc _⟩
  case round =>
    obtain ⟨k, hk, rfl, rfl, hup, hbk, hex⟩ := hrel
    have HU := Lib.hid hup
    have KX := Lib.hid hbk
    have HE := Lib.hid hex
    clear hup hbk hex
    by_cases hlt : k < n
    · obtain ⟨b2, o2, f, rfl, hb2, hfi, k0, k1, k2, k3, k4⟩ := (HY.out.ex HE.out).frame (k := k) (by have := HN.out; omega)
      have HFI := Lib.hid hfi
      obtain ⟨q0, q1⟩ := KX.out.c2
      have jX := KX.out.lt
      have C1 := Lib.hid (fun w => l3Frame_c f w)
      cases hfb : frameB f
      · rw [hfb] at C1
        clear hfi
        go_wp2_with fail
        refine (C1.out _).mono ?_
        rintro r w2 ⟨rfl, he⟩
        have HE2 := Lib.hid (HE.out.trans he)
        have HB := Lib.hid hfb
        clear he hfb
        go_wp2
        go_ret
        exact HNO.out _ HE2.out (not_frames HFI.out (fun h => by have := frameB_iff.2 h.1; rw [HB.out] at this; cases this))
      · rw [hfb] at C1
        have HB : Hid (frameOk f) := Lib.hid (frameB_iff.1 hfb)
        clear hfi hfb
        go_wp2_with fail
        refine (C1.out _).mono ?_
        rintro r w2 ⟨rfl, he⟩
        have HE2 := Lib.hid (HE.out.trans he)
        have KX2 := Lib.hid (KX.out.ex he)
        clear he q0 q1 jX k0 k1 k2 k3 k4 C1 KX
        obtain ⟨q0, q1⟩ := KX2.out.c2
        have jX := KX2.out.lt
        obtain ⟨b3, o3, g, e3, hb3, hgi, k0, k1, k2, k3, k4⟩ := (HY.out.ex HE2.out).frame (k := k) (by have := HN.out; omega)
        cases e3
        have e : f = g := by rw [HFI.out] at hgi; injection hgi
        subst e
        clear hgi
        have hul := usedN_le t.frames k
        have HUS := Lib.hid (usedN_succ HFI.out)
        generalize usedN t.frames k = un at hul HUS ⊢
        cases hu : f.used
        · have HFU := Lib.hid hu
          rw [hu] at k0
          clear hu
          go_wp2
          clear q0 q1 jX k0 k1 k2 k3 k4
          go_loopw [5] (fun i wq => ∃ j : Nat, j ≤ k ∧ i = .int .i64 j ∧ Ex w2 wq) (fun i _ => k - (intOf i).toNat)
          case atStart => exact ⟨0, Nat.zero_le _, rfl, Ex.refl _⟩
          case round =>
            obtain ⟨j, hj, rfl, hq⟩ := hrel
            have HQ := Lib.hid hq
            skip
            clear hq
            by_cases hjk : j < k
            · obtain ⟨q0, q1⟩ := (KX2.out.ex HQ.out).c2
              have jX := (KX2.out.ex HQ.out).lt
              obtain ⟨b4, o4, g4, e4, hb4, hg4, k0, k1, k2, k3, k4⟩ := (HY.out.ex (HE2.out.trans HQ.out)).frame (k := k) (by have := HN.out; omega)
              cases e4
              have e : g4 = f := by rw [HFI.out] at hg4; injection hg4 with e; exact e.symm
              rw [e] at k0 k1 k2 k3 k4
              rw [HFU.out] at k0
              clear hg4 e
              go_wp2_with fail
              go_quiet (fail)
              go_wp2
              go_roundw
              case rel => exact ⟨j + 1, by omega, by go_num, HQ.out.drewN _⟩
              case measure => simp [intOf]; omega
            · obtain rfl : j = k := by omega
              go_wp2
              go_roundw
              case rel => exact ⟨j + 1, by omega, by go_num, by rw [HUS.out, HFU.out]; simp, framesUp_succ HU.out HFI.out HB.out (fun j' g hj' hg h1 => by rw [HFU.out] at h1; cases h1), KX2.out.ex HQ.out, HE2.out.trans HQ.out⟩
              case measure => simp [intOf]; omega
        · have HFU := Lib.hid hu
          rw [hu] at k0
          clear hu
          go_wp2
          clear q0 q1 jX k0 k1 k2 k3 k4
          go_loopw [5] (fun i wq => ∃ j : Nat, j ≤ k ∧ i = .int .i64 j ∧ Ex w2 wq ∧ ∀ j' g, j' < j → t.frames[j']? = some g → g.used = true → g.key ≠ f.key) (fun i _ => k - (intOf i).toNat)
          case atStart => exact ⟨0, Nat.zero_le _, rfl, Ex.refl _, fun j' g h => by omega⟩
          case round =>
            obtain ⟨j, hj, rfl, hq, hall⟩ := hrel
            have HQ := Lib.hid hq
            have HALL := Lib.hid hall
            clear hq hall
            by_cases hjk : j < k
            · obtain ⟨q0, q1⟩ := (KX2.out.ex HQ.out).c2
              have jX := (KX2.out.ex HQ.out).lt
              obtain ⟨b4, o4, g4, e4, hb4, hg4, k0, k1, k2, k3, k4⟩ := (HY.out.ex (HE2.out.trans HQ.out)).frame (k := k) (by have := HN.out; omega)
              cases e4
              have e : g4 = f := by rw [HFI.out] at hg4; injection hg4 with e; exact e.symm
              rw [e] at k0 k1 k2 k3 k4
              rw [HFU.out] at k0
              clear hg4 e
              obtain ⟨b5, o5, g, e5, hb5, hgj, p0, p1, p2, p3, p4⟩ := (HY.out.ex (HE2.out.trans HQ.out)).frame (k := j) (by have := HN.out; omega)
              cases e5
              have HGJ := Lib.hid hgj
              clear hgj
              cases hgu : g.used
              · have HGU := Lib.hid hgu
                rw [hgu] at p0
                clear hgu
                go_wp2_with fail
                go_quiet (fail)
                go_wp2
                go_roundw
                case rel => exact ⟨j + 1, by omega, by go_num, HQ.out.drewN _, fun j' g' hj' hg' h1 => by
                  by_cases e : j' = j
                  · subst e
                    rw [HGJ.out] at hg'
                    injection hg' with hg'
                    rw [← hg', HGU.out] at h1
                    cases h1
                  · exact HALL.out j' g' (by omega) hg' h1⟩
                case measure => simp [intOf]; omega
              · have HGU := Lib.hid hgu
                rw [hgu] at p0
                have hz := eql_keyV g.key f.key
                have hgd := guardKeyV
                cases hkk : eqB g.key f.key
                · rw [hkk] at hz
                  have HKK := Lib.hid (eqB_false.1 hkk)
                  clear hgu hkk
                  go_wp2_with fail
                  go_quiet (fail)
                  go_wp2
                  go_roundw
                  case rel => exact ⟨j + 1, by omega, by go_num, HQ.out.drewN _, fun j' g' hj' hg' h1 => by
                    by_cases e : j' = j
                    · subst e
                      rw [HGJ.out] at hg'
                      injection hg' with hg'
                      rw [← hg']
                      exact HKK.out
                    · exact HALL.out j' g' (by omega) hg' h1⟩
                  case measure => simp [intOf]; omega
                · rw [hkk] at hz
                  have HKK := Lib.hid (eqB_true.1 hkk)
                  clear hgu hkk
                  go_wp2_with fail
                  go_quiet (fail)
                  go_wp2
                  go_ret
                  exact HNO.out _ ((HE2.out.trans HQ.out).drewN _) (not_frames HFI.out (fun h => h.2 j g hjk HGJ.out HFU.out HGU.out HKK.out))
            · obtain rfl : j = k := by omega
              go_wp2
              go_roundw
              case rel => exact ⟨j + 1, by omega, by go_num, by rw [HUS.out, HFU.out]; exact congrArg _ (by simp), framesUp_succ HU.out HFI.out HB.out (fun j' g hj' hg _ => HALL.out j' g hj' hg), KX2.out.ex HQ.out, HE2.out.trans HQ.out⟩
              case measure => simp [intOf]; omega
    · -- BUCKETS
      obtain rfl : k = n := by omega
      have HU3 : Hid (FramesUp t.frames t.frames.length) := Lib.hid (by rw [← HN.out]; exact HU.out)
      have hul := usedN_le t.frames k
      have HUN : Hid (usedN t.frames k = usedN t.frames t.frames.length) := Lib.hid (by rw [← HN.out])
      generalize usedN t.frames k = un at hul HUN ⊢
      obtain ⟨q0, q1⟩ := KX.out.c2
      have jX := KX.out.lt
      clear HU
      go_wp2
      clear q0 q1 jX
      go_loopw [3, 6] (fun u i wb => ∃ (b : Nat) (ls : List (List Nat)), b ≤ m ∧ i = .int .i64 b ∧ u = .int .i64 ((un : Int) - (sumL ls : Int)) ∧ Buckets t b ls ∧ sumL ls ≤ 16 * b ∧ Ex wr wb) (fun _ i _ => m - (intOf i).toNat)
      case atStart => exact ⟨0, [], Nat.zero_le _, rfl, by simp [sumL], Buckets.zero _, Nat.zero_le _, Ex.refl _⟩
      case round =>
        obtain ⟨b, ls, hb, rfl, rfl, hbu, hsl, hexb⟩ := hrel
        have HBU := Lib.hid hbu
        have HEB := Lib.hid hexb
        have HE3 := Lib.hid (HE.out.trans hexb)
        have KX2 := Lib.hid (KX.out.ex hexb)
        clear hbu hexb
        obtain ⟨q0, q1⟩ := KX2.out.c2
        have jX := KX2.out.lt
        by_cases hbm : b < m
        · obtain ⟨a0, ha0⟩ : ∃ a, t.buckets[b]? = some a := ⟨_, List.getElem?_eq_getElem (by have := HM.out; omega)⟩
          have HA0 := Lib.hid ha0
          clear ha0
          generalize hsm : sumL ls = sl at hsl ⊢
          have HSM := Lib.hid hsm
          clear hsm
          go_wp2_with fail
          refine (CC.out b a0 _ (HX.out.ex HE3.out) (HY.out.ex HE3.out) HA0.out).mono ?_
          rintro r w3 ⟨l, ok, A3, c3, rfl, hok, hno, hll, hrd, he⟩
          have HOK := Lib.hid hok
          have HNOC := Lib.hid hno
          have HRD := Lib.hid hrd
          have HE4 := Lib.hid (HE3.out.trans he)
          have HEB3 := Lib.hid (HEB.out.trans he)
          have KX3 := Lib.hid (KX2.out.ex he)
          have hll' : l.length ≤ k := by have := HN.out; omega
          clear hok hno hrd he hll q0 q1 jX KX2
          cases ok
          · have HNC := Lib.hid (HNOC.out rfl)
            clear HNOC HOK
            go_wp2
            go_ret
            exact HNO.out _ HE4.out (not_nochain HA0.out HNC.out)
          have HCH := Lib.hid (HOK.out rfl)
          clear HOK HNOC
          go_wp2
          go_loopw [9] (fun i wq => ∃ j : Nat, j ≤ l.length ∧ i = .int .i64 j ∧ Ex w3 wq ∧ ∀ (j' x : Nat) (f : FrameD), j' < j → l[j']? = some x → t.frames[x]? = some f → hashK f.key t.buckets.length = b) (fun i _ => l.length - (intOf i).toNat)
          case atStart => exact ⟨0, Nat.zero_le _, rfl, Ex.refl _, fun j' x f h => by omega⟩
          case round =>
            obtain ⟨j, hj, rfl, hq, hall⟩ := hrel
            have HQ := Lib.hid hq
            have HALL := Lib.hid hall
            clear hq hall
            by_cases hjl : j < l.length
            · obtain ⟨b5, o5, y, rfl, hb5, hyj, hcy⟩ := (HRD.out.ex HQ.out).int (k := j) (by rw [nums_len]; exact hjl)
              obtain ⟨x, hxj⟩ : ∃ x, l[j]? = some x := ⟨_, List.getElem?_eq_getElem hjl⟩
              have e : y = (x : Int) := by unfold nums at hyj; rw [List.getElem?_map, hxj] at hyj; injection hyj with e; exact e.symm
              subst e
              obtain ⟨f, hfx, hfu⟩ := HCH.out.in_ (List.mem_of_getElem? hxj)
              have hxn : x < k := by have := getElem?_lt hfx; have := HN.out; omega
              have hkok : keyOk f.key := ((HU3.out x f (getElem?_lt hfx) hfx).1.2 hfu).1
              obtain ⟨b2, o2, f', rfl, hb2, hfx', k0, k1, k2, k3, k4⟩ := (HY.out.ex (HE4.out.trans HQ.out)).frame (k := x) (by have := HN.out; omega)
              have e : f' = f := by rw [hfx] at hfx'; injection hfx' with e; exact e.symm
              subst e
              have HXJ := Lib.hid hxj
              have HFX := Lib.hid hfx
              have FK : Hid (∀ w', Ex wr w' → (w'.cell? ⟨w.heap.size, 0, none⟩ = some (.slice A m c) ∧ w'.cell? ⟨w.heap.size, 1, none⟩ = some (.slice (some ⟨b2, o2, none⟩) k d) ∧ w'.cell? ⟨b5, o5 + j, none⟩ = some (.int .i64 x) ∧ w'.cell? ⟨b2, o2 + x * 5 + 1, none⟩ = some (.int .i64 f'.key.space) ∧ w'.cell? ⟨b2, o2 + x * 5 + 2, none⟩ = some (.int .i64 f'.key.page))) := Lib.hid (fun w' h => ⟨((KX3.out.ex HQ.out).ex h).c2.1, ((KX3.out.ex HQ.out).ex h).c2.2, (h.cell hb5).trans hcy, (h.cell hb2).trans k1, (h.cell hb2).trans k2⟩)
              have CH := Lib.hid (fun w => hashS_c f'.key (m : Int) w hkok (by omega) (by omega))
              have HHV : Hid (hashK f'.key (m : Int) = hashK f'.key t.buckets.length) := Lib.hid (by rw [← HM.out])
              generalize hashK f'.key (m : Int) = hv at CH HHV
              clear hyj hxj hfx hfx' k0 k1 k2 k3 k4 hcy hkok hfu
              by_cases ehv : hv = (b : Int)
              · subst ehv
                obtain ⟨m0, m1, m2, m3, m4⟩ := FK.out wr (Ex.refl _)
                have jX := (KX3.out.ex HQ.out).lt
                go_wp2_with fail
                clear m0 m1 m2 m3 m4 jX
                refine wp_region_held_drew (S := (fun w' => (w'.cell? ⟨w.heap.size, 0, none⟩ = some (.slice A m c) ∧ w'.cell? ⟨w.heap.size, 1, none⟩ = some (.slice (some ⟨b2, o2, none⟩) k d) ∧ w'.cell? ⟨b5, o5 + j, none⟩ = some (.int .i64 x) ∧ w'.cell? ⟨b2, o2 + x * 5 + 1, none⟩ = some (.int .i64 f'.key.space) ∧ w'.cell? ⟨b2, o2 + x * 5 + 2, none⟩ = some (.int .i64 f'.key.page)))) (by kernel_rfl) ?r0_hS0 (fun hHeld => ?_)
                case r0_hS0 => exact FK.out _ (Ex.refl _).drew
                refine wpAnyH_take (i := 0) (oi := ?r0_o0) (v := ?r0_v0) ?r0_ho0 (by kernel_rfl) (by kernel_rfl) (by kernel_rfl) ?r0_hq0 ?r0_hy0 (by assumption) ?_
                case r0_ho0 => (conv => lhs; whnf; arg 1; whnf)
                case r0_hq0 => exact fun _ _ _ h => h
                case r0_hy0 => (refine Or.inl ⟨by rfl, ?_⟩; intro w hSw; (try dsimp only at hSw); first | (go_simp; done) | (go_simp; with_reducible rfl))
                try simp only [Act.put, List.setIfInBounds_toArray, List.set_cons_zero, List.set_cons_succ]
                refine wpAnyH_take (i := 1) (oi := ?r0_o1) (v := ?r0_v1) ?r0_ho1 (by kernel_rfl) (by kernel_rfl) (by kernel_rfl) ?r0_hq1 ?r0_hy1 (by assumption) ?_
                case r0_ho1 => (conv => lhs; whnf; arg 1; whnf)
                case r0_hq1 => exact fun _ _ _ h => h
                case r0_hy1 => (refine Or.inl ⟨by rfl, ?_⟩; intro w hSw; (try dsimp only at hSw); first | (go_simp; done) | (go_simp; with_reducible rfl))
                try simp only [Act.put, List.setIfInBounds_toArray, List.set_cons_zero, List.set_cons_succ]
                refine wpAnyH_take (i := 2) (oi := ?r0_o2) (v := ?r0_v2) ?r0_ho2 (by kernel_rfl) (by kernel_rfl) (by kernel_rfl) ?r0_hq2 ?r0_hy2 (by assumption) ?_
                case r0_ho2 => (conv => lhs; whnf; arg 1; whnf)
                case r0_hq2 => exact fun _ _ _ h => h
                case r0_hy2 => (refine Or.inl ⟨by rfl, ?_⟩; intro w hSw; (try dsimp only at hSw); first | (go_simp; done) | (go_simp; with_reducible rfl))
                try simp only [Act.put, List.setIfInBounds_toArray, List.set_cons_zero, List.set_cons_succ]
                refine wpAnyH_take (i := 3) (oi := ?r0_o3) (v := ?r0_v3) ?r0_ho3 (by kernel_rfl) (by kernel_rfl) (by kernel_rfl) ?r0_hq3 ?r0_hy3 (by assumption) ?_
                case r0_ho3 => (conv => lhs; whnf; arg 1; whnf)
                case r0_hq3 => exact fun _ _ _ h => h
                case r0_hy3 => (refine Or.inl ⟨by rfl, ?_⟩; intro w hSw; (try dsimp only at hSw); first | (go_simp; done) | (go_simp; with_reducible rfl))
                try simp only [Act.put, List.setIfInBounds_toArray, List.set_cons_zero, List.set_cons_succ]
                refine wpAnyH_take (i := 4) (oi := ?r0_o4) (v := ?r0_v4) ?r0_ho4 (by kernel_rfl) (by kernel_rfl) (by kernel_rfl) ?r0_hq4 ?r0_hy4 (by assumption) ?_
                case r0_ho4 => (conv => lhs; whnf; arg 1; whnf)
                case r0_hq4 => exact fun _ _ _ h => h
                case r0_hy4 => (refine Or.inl ⟨by rfl, ?_⟩; intro w hSw; (try dsimp only at hSw); first | (go_simp; done) | (go_simp; with_reducible rfl))
                try simp only [Act.put, List.setIfInBounds_toArray, List.set_cons_zero, List.set_cons_succ]
                refine wpAnyH_take (i := 5) (oi := ?r0_o5) (v := ?r0_v5) ?r0_ho5 (by kernel_rfl) (by kernel_rfl) (by kernel_rfl) ?r0_hq5 ?r0_hy5 (by assumption) ?_
                case r0_ho5 => (conv => lhs; whnf; arg 1; whnf)
                case r0_hq5 => exact fun _ _ _ h => h
                case r0_hy5 => (refine Or.inl ⟨by rfl, ?_⟩; intro w hSw; (try dsimp only at hSw); first | (go_simp; done) | (go_simp; with_reducible rfl))
                try simp only [Act.put, List.setIfInBounds_toArray, List.set_cons_zero, List.set_cons_succ]
                refine wpAnyH_take (i := 6) (oi := ?r0_o6) (v := ?r0_v6) ?r0_ho6 (by kernel_rfl) (by kernel_rfl) (by kernel_rfl) ?r0_hq6 ?r0_hy6 (by assumption) ?_
                case r0_ho6 => (conv => lhs; whnf; arg 1; whnf)
                case r0_hq6 => exact fun _ _ _ h => h
                case r0_hy6 => (refine Or.inl ⟨by rfl, ?_⟩; intro w hSw; (try dsimp only at hSw); first | (go_simp; done) | (go_simp; with_reducible rfl))
                try simp only [Act.put, List.setIfInBounds_toArray, List.set_cons_zero, List.set_cons_succ]
                refine wpAnyH_take (i := 7) (oi := ?r0_o7) (v := ?r0_v7) ?r0_ho7 (by kernel_rfl) (by kernel_rfl) (by kernel_rfl) ?r0_hq7 ?r0_hy7 (by assumption) ?_
                case r0_ho7 => (conv => lhs; whnf; arg 1; whnf)
                case r0_hq7 => exact fun _ _ _ h => h
                case r0_hy7 => (refine Or.inl ⟨by rfl, ?_⟩; intro w hSw; (try dsimp only at hSw); first | (go_simp; done) | (go_simp; with_reducible rfl))
                try simp only [Act.put, List.setIfInBounds_toArray, List.set_cons_zero, List.set_cons_succ]
                refine wpAnyH_take (i := 8) (oi := ?r0_o8) (v := ?r0_v8) ?r0_ho8 (by kernel_rfl) (by kernel_rfl) (by kernel_rfl) ?r0_hq8 ?r0_hy8 (by assumption) ?_
                case r0_ho8 => (conv => lhs; whnf; arg 1; whnf)
                case r0_hq8 => exact fun _ _ _ h => h
                case r0_hy8 => (refine Or.inl ⟨by rfl, ?_⟩; intro w hSw; (try dsimp only at hSw); first | (go_simp; done) | (go_simp; with_reducible rfl))
                try simp only [Act.put, List.setIfInBounds_toArray, List.set_cons_zero, List.set_cons_succ]
                refine wpAnyH_take (i := 9) (oi := ?r0_o9) (v := ?r0_v9) ?r0_ho9 (by kernel_rfl) (by kernel_rfl) (by kernel_rfl) ?r0_hq9 ?r0_hy9 (by assumption) ?_
                case r0_ho9 => (conv => lhs; whnf; arg 1; whnf)
                case r0_hq9 => exact fun _ _ _ h => h
                case r0_hy9 => (refine Or.inl ⟨by rfl, ?_⟩; intro w hSw; (try dsimp only at hSw); first | (go_simp; done) | (go_simp; with_reducible rfl))
                try simp only [Act.put, List.setIfInBounds_toArray, List.set_cons_zero, List.set_cons_succ]
                refine wpAnyH_take (i := 10) (oi := ?r0_o10) (v := ?r0_v10) ?r0_ho10 (by kernel_rfl) (by kernel_rfl) (by kernel_rfl) ?r0_hq10 ?r0_hy10 (by assumption) ?_
                case r0_ho10 => (conv => lhs; whnf; arg 1; whnf)
                case r0_hq10 => exact fun _ _ _ h => h
                case r0_hy10 => (refine Or.inl ⟨by rfl, ?_⟩; intro w hSw; (try dsimp only at hSw); first | (go_simp; done) | (go_simp; with_reducible rfl))
                try simp only [Act.put, List.setIfInBounds_toArray, List.set_cons_zero, List.set_cons_succ]
                refine wpAnyH_take (i := 11) (oi := ?r0_o11) (v := ?r0_v11) ?r0_ho11 (by kernel_rfl) (by kernel_rfl) (by kernel_rfl) ?r0_hq11 ?r0_hy11 (by assumption) ?_
                case r0_ho11 => (conv => lhs; whnf; arg 1; whnf)
                case r0_hq11 => exact fun _ _ _ h => h
                case r0_hy11 => (refine Or.inl ⟨by rfl, ?_⟩; intro w hSw; (try dsimp only at hSw); first | (go_simp; done) | (go_simp; with_reducible rfl))
                try simp only [Act.put, List.setIfInBounds_toArray, List.set_cons_zero, List.set_cons_succ]
                refine wpAnyH_take (i := 13) (oi := ?r0_o13) (v := ?r0_v13) ?r0_ho13 (by kernel_rfl) (by kernel_rfl) (by kernel_rfl) ?r0_hq13 ?r0_hy13 (by assumption) ?_
                case r0_ho13 => (conv => lhs; whnf; arg 1; whnf)
                case r0_hq13 => exact fun _ _ _ h => h
                case r0_hy13 => (refine Or.inl ⟨by rfl, ?_⟩; intro w hSw; (try dsimp only at hSw); first | (go_simp; done) | (go_simp; with_reducible rfl))
                try simp only [Act.put, List.setIfInBounds_toArray, List.set_cons_zero, List.set_cons_succ]
                refine wpAnyH_ready (rs := [12]) (by kernel_rfl) (by simp) ?_
                refine AllReadyH.cons (o := ?r0_o12) ?r0_ho12 (fun K hK => ?_) AllReadyH.nil
                case r0_ho12 => (conv => lhs; whnf; arg 1; whnf)
                refine step_call_gu rfl CES.out _ _ rfl #[.agg #[  .int .i64 f'.key.space, .int .i64 f'.key.page], .int .i64 m] rfl (CH.out _) ?_; rintro r wa ⟨rfl, hwa⟩; refine ⟨_, rfl, ?_⟩; have hxa := Ex.trans (Ex.refl _).drew hwa
                refine hK.out _ _ ?r0_hS12 (fun hHeld12 => ?_)
                case r0_hS12 => exact FK.out _ hxa
                clear hK K hHeld
                try simp only [Act.put, List.setIfInBounds_toArray, List.set_cons_zero, List.set_cons_succ]
                refine wpAnyH_take (i := 14) (oi := ?r0_o14) (v := ?r0_v14) ?r0_ho14 (by kernel_rfl) (by kernel_rfl) (by kernel_rfl) ?r0_hq14 ?r0_hy14 (by assumption) ?_
                case r0_ho14 => (conv => lhs; whnf; arg 1; whnf)
                case r0_hq14 => exact fun _ _ _ h => h
                case r0_hy14 => (refine Or.inl ⟨by rfl, ?_⟩; intro w hSw; (try dsimp only at hSw); first | (go_simp; done) | (go_simp; with_reducible rfl))
                try simp only [Act.put, List.setIfInBounds_toArray, List.set_cons_zero, List.set_cons_succ]
                refine wpAnyH_done (by kernel_rfl) ?_ _
                go_wp2
                go_roundw
                case rel => exact ⟨j + 1, by omega, by go_num, HQ.out.trans hxa, fun j' x' g hj' hx' hg => by
                  by_cases e : j' = j
                  · subst e
                    rw [HXJ.out] at hx'
                    injection hx' with hx'
                    subst hx'
                    rw [HFX.out] at hg
                    injection hg with hg
                    subst hg
                    exact HHV.out.symm
                  · exact HALL.out j' x' g (by omega) hx' hg⟩
                case measure => simp [intOf]; omega
              · have HEHV := Lib.hid ehv
                obtain ⟨m0, m1, m2, m3, m4⟩ := FK.out wr (Ex.refl _)
                have jX := (KX3.out.ex HQ.out).lt
                go_wp2_with fail
                clear m0 m1 m2 m3 m4 jX
                refine wp_region_held_drew (S := (fun w' => (w'.cell? ⟨w.heap.size, 0, none⟩ = some (.slice A m c) ∧ w'.cell? ⟨w.heap.size, 1, none⟩ = some (.slice (some ⟨b2, o2, none⟩) k d) ∧ w'.cell? ⟨b5, o5 + j, none⟩ = some (.int .i64 x) ∧ w'.cell? ⟨b2, o2 + x * 5 + 1, none⟩ = some (.int .i64 f'.key.space) ∧ w'.cell? ⟨b2, o2 + x * 5 + 2, none⟩ = some (.int .i64 f'.key.page)))) (by kernel_rfl) ?r1_hS0 (fun hHeld => ?_)
                case r1_hS0 => exact FK.out _ (Ex.refl _).drew
                refine wpAnyH_take (i := 0) (oi := ?r1_o0) (v := ?r1_v0) ?r1_ho0 (by kernel_rfl) (by kernel_rfl) (by kernel_rfl) ?r1_hq0 ?r1_hy0 (by assumption) ?_
                case r1_ho0 => (conv => lhs; whnf; arg 1; whnf)
                case r1_hq0 => exact fun _ _ _ h => h
                case r1_hy0 => (refine Or.inl ⟨by rfl, ?_⟩; intro w hSw; (try dsimp only at hSw); first | (go_simp; done) | (go_simp; with_reducible rfl))
                try simp only [Act.put, List.setIfInBounds_toArray, List.set_cons_zero, List.set_cons_succ]
                refine wpAnyH_take (i := 1) (oi := ?r1_o1) (v := ?r1_v1) ?r1_ho1 (by kernel_rfl) (by kernel_rfl) (by kernel_rfl) ?r1_hq1 ?r1_hy1 (by assumption) ?_
                case r1_ho1 => (conv => lhs; whnf; arg 1; whnf)
                case r1_hq1 => exact fun _ _ _ h => h
                case r1_hy1 => (refine Or.inl ⟨by rfl, ?_⟩; intro w hSw; (try dsimp only at hSw); first | (go_simp; done) | (go_simp; with_reducible rfl))
                try simp only [Act.put, List.setIfInBounds_toArray, List.set_cons_zero, List.set_cons_succ]
                refine wpAnyH_take (i := 2) (oi := ?r1_o2) (v := ?r1_v2) ?r1_ho2 (by kernel_rfl) (by kernel_rfl) (by kernel_rfl) ?r1_hq2 ?r1_hy2 (by assumption) ?_
                case r1_ho2 => (conv => lhs; whnf; arg 1; whnf)
                case r1_hq2 => exact fun _ _ _ h => h
                case r1_hy2 => (refine Or.inl ⟨by rfl, ?_⟩; intro w hSw; (try dsimp only at hSw); first | (go_simp; done) | (go_simp; with_reducible rfl))
                try simp only [Act.put, List.setIfInBounds_toArray, List.set_cons_zero, List.set_cons_succ]
                refine wpAnyH_take (i := 3) (oi := ?r1_o3) (v := ?r1_v3) ?r1_ho3 (by kernel_rfl) (by kernel_rfl) (by kernel_rfl) ?r1_hq3 ?r1_hy3 (by assumption) ?_
                case r1_ho3 => (conv => lhs; whnf; arg 1; whnf)
                case r1_hq3 => exact fun _ _ _ h => h
                case r1_hy3 => (refine Or.inl ⟨by rfl, ?_⟩; intro w hSw; (try dsimp only at hSw); first | (go_simp; done) | (go_simp; with_reducible rfl))
                try simp only [Act.put, List.setIfInBounds_toArray, List.set_cons_zero, List.set_cons_succ]
                refine wpAnyH_take (i := 4) (oi := ?r1_o4) (v := ?r1_v4) ?r1_ho4 (by kernel_rfl) (by kernel_rfl) (by kernel_rfl) ?r1_hq4 ?r1_hy4 (by assumption) ?_
                case r1_ho4 => (conv => lhs; whnf; arg 1; whnf)
                case r1_hq4 => exact fun _ _ _ h => h
                case r1_hy4 => (refine Or.inl ⟨by rfl, ?_⟩; intro w hSw; (try dsimp only at hSw); first | (go_simp; done) | (go_simp; with_reducible rfl))
                try simp only [Act.put, List.setIfInBounds_toArray, List.set_cons_zero, List.set_cons_succ]
                refine wpAnyH_take (i := 5) (oi := ?r1_o5) (v := ?r1_v5) ?r1_ho5 (by kernel_rfl) (by kernel_rfl) (by kernel_rfl) ?r1_hq5 ?r1_hy5 (by assumption) ?_
                case r1_ho5 => (conv => lhs; whnf; arg 1; whnf)
                case r1_hq5 => exact fun _ _ _ h => h
                case r1_hy5 => (refine Or.inl ⟨by rfl, ?_⟩; intro w hSw; (try dsimp only at hSw); first | (go_simp; done) | (go_simp; with_reducible rfl))
                try simp only [Act.put, List.setIfInBounds_toArray, List.set_cons_zero, List.set_cons_succ]
                refine wpAnyH_take (i := 6) (oi := ?r1_o6) (v := ?r1_v6) ?r1_ho6 (by kernel_rfl) (by kernel_rfl) (by kernel_rfl) ?r1_hq6 ?r1_hy6 (by assumption) ?_
                case r1_ho6 => (conv => lhs; whnf; arg 1; whnf)
                case r1_hq6 => exact fun _ _ _ h => h
                case r1_hy6 => (refine Or.inl ⟨by rfl, ?_⟩; intro w hSw; (try dsimp only at hSw); first | (go_simp; done) | (go_simp; with_reducible rfl))
                try simp only [Act.put, List.setIfInBounds_toArray, List.set_cons_zero, List.set_cons_succ]
                refine wpAnyH_take (i := 7) (oi := ?r1_o7) (v := ?r1_v7) ?r1_ho7 (by kernel_rfl) (by kernel_rfl) (by kernel_rfl) ?r1_hq7 ?r1_hy7 (by assumption) ?_
                case r1_ho7 => (conv => lhs; whnf; arg 1; whnf)
                case r1_hq7 => exact fun _ _ _ h => h
                case r1_hy7 => (refine Or.inl ⟨by rfl, ?_⟩; intro w hSw; (try dsimp only at hSw); first | (go_simp; done) | (go_simp; with_reducible rfl))
                try simp only [Act.put, List.setIfInBounds_toArray, List.set_cons_zero, List.set_cons_succ]
                refine wpAnyH_take (i := 8) (oi := ?r1_o8) (v := ?r1_v8) ?r1_ho8 (by kernel_rfl) (by kernel_rfl) (by kernel_rfl) ?r1_hq8 ?r1_hy8 (by assumption) ?_
                case r1_ho8 => (conv => lhs; whnf; arg 1; whnf)
                case r1_hq8 => exact fun _ _ _ h => h
                case r1_hy8 => (refine Or.inl ⟨by rfl, ?_⟩; intro w hSw; (try dsimp only at hSw); first | (go_simp; done) | (go_simp; with_reducible rfl))
                try simp only [Act.put, List.setIfInBounds_toArray, List.set_cons_zero, List.set_cons_succ]
                refine wpAnyH_take (i := 9) (oi := ?r1_o9) (v := ?r1_v9) ?r1_ho9 (by kernel_rfl) (by kernel_rfl) (by kernel_rfl) ?r1_hq9 ?r1_hy9 (by assumption) ?_
                case r1_ho9 => (conv => lhs; whnf; arg 1; whnf)
                case r1_hq9 => exact fun _ _ _ h => h
                case r1_hy9 => (refine Or.inl ⟨by rfl, ?_⟩; intro w hSw; (try dsimp only at hSw); first | (go_simp; done) | (go_simp; with_reducible rfl))
                try simp only [Act.put, List.setIfInBounds_toArray, List.set_cons_zero, List.set_cons_succ]
                refine wpAnyH_take (i := 10) (oi := ?r1_o10) (v := ?r1_v10) ?r1_ho10 (by kernel_rfl) (by kernel_rfl) (by kernel_rfl) ?r1_hq10 ?r1_hy10 (by assumption) ?_
                case r1_ho10 => (conv => lhs; whnf; arg 1; whnf)
                case r1_hq10 => exact fun _ _ _ h => h
                case r1_hy10 => (refine Or.inl ⟨by rfl, ?_⟩; intro w hSw; (try dsimp only at hSw); first | (go_simp; done) | (go_simp; with_reducible rfl))
                try simp only [Act.put, List.setIfInBounds_toArray, List.set_cons_zero, List.set_cons_succ]
                refine wpAnyH_take (i := 11) (oi := ?r1_o11) (v := ?r1_v11) ?r1_ho11 (by kernel_rfl) (by kernel_rfl) (by kernel_rfl) ?r1_hq11 ?r1_hy11 (by assumption) ?_
                case r1_ho11 => (conv => lhs; whnf; arg 1; whnf)
                case r1_hq11 => exact fun _ _ _ h => h
                case r1_hy11 => (refine Or.inl ⟨by rfl, ?_⟩; intro w hSw; (try dsimp only at hSw); first | (go_simp; done) | (go_simp; with_reducible rfl))
                try simp only [Act.put, List.setIfInBounds_toArray, List.set_cons_zero, List.set_cons_succ]
                refine wpAnyH_take (i := 13) (oi := ?r1_o13) (v := ?r1_v13) ?r1_ho13 (by kernel_rfl) (by kernel_rfl) (by kernel_rfl) ?r1_hq13 ?r1_hy13 (by assumption) ?_
                case r1_ho13 => (conv => lhs; whnf; arg 1; whnf)
                case r1_hq13 => exact fun _ _ _ h => h
                case r1_hy13 => (refine Or.inl ⟨by rfl, ?_⟩; intro w hSw; (try dsimp only at hSw); first | (go_simp; done) | (go_simp; with_reducible rfl))
                try simp only [Act.put, List.setIfInBounds_toArray, List.set_cons_zero, List.set_cons_succ]
                refine wpAnyH_ready (rs := [12]) (by kernel_rfl) (by simp) ?_
                refine AllReadyH.cons (o := ?r1_o12) ?r1_ho12 (fun K hK => ?_) AllReadyH.nil
                case r1_ho12 => (conv => lhs; whnf; arg 1; whnf)
                refine step_call_gu rfl CES.out _ _ rfl #[.agg #[  .int .i64 f'.key.space, .int .i64 f'.key.page], .int .i64 m] rfl (CH.out _) ?_; rintro r wa ⟨rfl, hwa⟩; refine ⟨_, rfl, ?_⟩; have hxa := Ex.trans (Ex.refl _).drew hwa
                refine hK.out _ _ ?r1_hS12 (fun hHeld12 => ?_)
                case r1_hS12 => exact FK.out _ hxa
                clear hK K hHeld
                try simp only [Act.put, List.setIfInBounds_toArray, List.set_cons_zero, List.set_cons_succ]
                refine wpAnyH_take (i := 14) (oi := ?r1_o14) (v := ?r1_v14) ?r1_ho14 (by kernel_rfl) (by kernel_rfl) (by kernel_rfl) ?r1_hq14 ?r1_hy14 (by assumption) ?_
                case r1_ho14 => (conv => lhs; whnf; arg 1; whnf)
                case r1_hq14 => exact fun _ _ _ h => h
                case r1_hy14 => (refine Or.inl ⟨by rfl, ?_⟩; intro w hSw; (try dsimp only at hSw); first | (go_simp; done) | (go_simp; with_reducible rfl))
                try simp only [Act.put, List.setIfInBounds_toArray, List.set_cons_zero, List.set_cons_succ]
                refine wpAnyH_done (by kernel_rfl) ?_ _
                go_wp2
                go_ret
                exact HNO.out _ ((HE4.out.trans HQ.out).trans hxa) (not_hash HA0.out HCH.out (List.mem_of_getElem? HXJ.out) HFX.out (by rw [← HHV.out]; exact HEHV.out))
            · obtain rfl : j = l.length := by omega
              go_wp2
              go_roundw
              case rel => exact ⟨b + 1, ls ++ [l], by omega, by go_num, by rw [sumL_succ, HSM.out]; exact congrArg _ (by omega), HBU.out.succ HA0.out HCH.out (fun x f hx hf => by
                obtain ⟨j', hj', e⟩ := List.getElem_of_mem hx
                exact HALL.out j' x f hj' (by rw [List.getElem?_eq_getElem hj', e]) hf), by rw [sumL_succ, HSM.out]; omega, HEB3.out.trans HQ.out⟩
              case measure => simp [intOf]; omega
        · obtain rfl : b = m := by omega
          go_wp2
          go_ret
          refine ⟨ret_bool ?_, HE3.out⟩
          rw [Bool.eq_iff_iff, tableV_iff, tableOk_end HH.out HU3.out (HM.out ▸ HBU.out), ← HUN.out]
          simp
          omega
end Go.Proofs.YtihlaecbdlgbiaaDoor
