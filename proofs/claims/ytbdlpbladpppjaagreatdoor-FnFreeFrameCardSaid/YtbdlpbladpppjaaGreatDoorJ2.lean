/- Joined: Sc, Sk, Vs, Wf, Md, Tv, Ts, To, Tw, Wl, Cx. -/
import Derived.Deep.RegionLaw
import Derived.Deep.RegionHeld3
import Derived.BigQuiet
import Derived.Test.YtbdlpbladpppjaaGreatDoorJ1
namespace Go.Proofs.YtbdlpbladpppjaaGreatDoor
open Go.ChangeShapes Go.WideShapes Go.ChangeAt Go.RowKit

theorem enters {P : Program} {f : FuncId} {fn : Func} (hf : P.funcs[f]? = some fn) (hn : (fn.name == "runtime.NumGoroutine") = false) (hb : fn.body.isNone = false) (args : Array Value) (w : World) :
    (callFunc f args).run P w = .ok (.enter f args) w := by
  have h1 : fn.name ≠ "runtime.NumGoroutine" := by simpa using hn
  have h2 : ¬ fn.body = none := fun e => by rw [e] at hb; cases hb
  simp [callFunc, go_sem, hf, h1, h2]
theorem step_call {P : Program} {w : World} {ops : Array Oper} {o : Oper} {a : Act} {K : Act → World → Prop} {Q : Exit → Act → World → Prop} {X : Prop} (hgd : o.guard = none) {f : FuncId} (hen : ∀ (args : Array Value) (w : World), (callFunc f args).run P w = .ok (.enter f args) w) (xs : Array Operand) (ts : Array TypeId)
    (ho : o.op = .call { callee := .value (.func f), args := xs, argTypes := ts }) (vs : Array Value) (hv : xs.toList.map a.eval = vs.toList) {R : Ending → World → Prop} (hc : Calls P f vs w R)
    (h : ∀ e w', R e w' → ∃ v, e = .returned v ∧ K (a.put o.dst v) w') : if Region.wanted o (yielded ops a.tmps) = true then Oper.wp P o a w K Q else X := by
  have hw : Region.wanted o (yielded ops a.tmps) = true := by simp [Region.wanted, hgd]
  rw [if_pos hw]
  have hv' : xs.map a.eval = vs := Array.ext' (by rw [Array.toList_map]; exact hv)
  have he : (execOp a.eval o).run P w = .ok (.enter f vs) w := by
    rw [← hv']
    simp [execOp, ho, resolve, invoke, Act.eval, go_sem, hen]
  unfold Oper.wp
  rw [he, Oper.upon_enter]
  refine hc.mono fun e w' hr => ?_
  obtain ⟨v, rfl, hk⟩ := h e w' hr
  exact hk
theorem step_call_gu {P : Program} {w : World} {ops : Array Oper} {o : Oper} {a : Act} {K : Act → World → Prop} {Q : Exit → Act → World → Prop} {X : Prop} (hw : Region.wanted o (yielded ops a.tmps) = true) {f : FuncId} (hen : ∀ (args : Array Value) (w : World), (callFunc f args).run P w = .ok (.enter f args) w) (xs : Array Operand) (ts : Array TypeId)
    (ho : o.op = .call { callee := .value (.func f), args := xs, argTypes := ts }) (vs : Array Value) (hv : xs.toList.map a.eval = vs.toList) {R : Ending → World → Prop} (hc : Calls P f vs w R)
    (h : ∀ e w', R e w' → ∃ v, e = .returned v ∧ K (a.put o.dst v) w') : if Region.wanted o (yielded ops a.tmps) = true then Oper.wp P o a w K Q else X := by
  rw [if_pos hw]
  have hv' : xs.map a.eval = vs := Array.ext' (by rw [Array.toList_map]; exact hv)
  have he : (execOp a.eval o).run P w = .ok (.enter f vs) w := by
    rw [← hv']
    simp [execOp, ho, resolve, invoke, Act.eval, go_sem, hen]
  unfold Oper.wp
  rw [he, Oper.upon_enter]
  refine hc.mono fun e w' hr => ?_
  obtain ⟨v, rfl, hk⟩ := h e w' hr
  exact hk
end Go.Proofs.YtbdlpbladpppjaaGreatDoor
namespace Go.Proofs.YtbdlpbladpppjaaGreatDoor
open Go.ChangeShapes Go.WideShapes Go.ChangeAt Go.RowKit
set_option linter.unusedVariables false
set_option maxRecDepth 100000
section
variable {P : Program} {ops : Array Oper} {Q : Exit → Act → World → Prop} {md : Region.Mode} {S : World → Prop}
/-- Number i is taken first: it yields. -/
theorem tk {fuel : Nat} {listed l' : Array Bool} {a a' : Act} {w : World} {oi : Oper} {v : Value} (i : Nat) (h : wpAnyH P md ops Q S fuel l' a' w)
    (hi : ops[i]? = some oi := by (conv => lhs; whnf; arg 1; whnf))
    (hs : Region.noSelect ops = true := by kernel_rfl) (hf : Region.free md ops listed i = true := by kernel_rfl) (hr : (Region.ready md ops listed).contains i = true := by kernel_rfl)
    (hQ : ∀ c a w, Q (.panic c) (a.put oi.dst v) w → Q (.panic c) a w := by exact fun _ _ _ h => h)
    (hy : YieldsIf P ops S oi v a := by (refine Or.inl ⟨by rfl, ?_⟩; intro w hSw; (try dsimp only at hSw); first | (go_simp; done) | (go_simp; with_reducible rfl)))
    (hS : S w := by assumption)
    (hl : listed.setIfInBounds i true = l' := by first | (simp only [List.setIfInBounds_toArray, List.set_cons_zero, List.set_cons_succ]; done) | (simp only [List.setIfInBounds_toArray, List.set_cons_zero, List.set_cons_succ]; exact rfl) | exact rfl)
    (ha : a.put oi.dst v = a' := by first | (simp only [Act.put, List.setIfInBounds_toArray, List.set_cons_zero, List.set_cons_succ]; done) | (simp only [Act.put, List.setIfInBounds_toArray, List.set_cons_zero, List.set_cons_succ]; exact rfl) | exact rfl) :
    wpAnyH P md ops Q S (fuel + 1) listed a w := by
  subst hl ha
  exact wpAnyH_take hi hs hf hr hQ hy hS h
/-- Number i is taken first: its guard is off. -/
theorem tn {fuel : Nat} {listed l' : Array Bool} {a a' : Act} {w : World} {oi : Oper} (i : Nat) (h : wpAnyH P md ops Q S fuel l' a' w)
    (hi : ops[i]? = some oi := by (conv => lhs; whnf; arg 1; whnf))
    (hs : Region.noSelect ops = true := by kernel_rfl) (hf : Region.free md ops listed i = true := by kernel_rfl) (hr : (Region.ready md ops listed).contains i = true := by kernel_rfl)
    (hQ : ∀ c a w, Q (.panic c) (a.put oi.dst undef) w → Q (.panic c) a w := by exact fun _ _ _ h => h)
    (hw : Region.wanted oi (yielded ops a.tmps) = false := by rfl)
    (hS : S w := by assumption)
    (hl : listed.setIfInBounds i true = l' := by first | (simp only [List.setIfInBounds_toArray, List.set_cons_zero, List.set_cons_succ]; done) | (simp only [List.setIfInBounds_toArray, List.set_cons_zero, List.set_cons_succ]; exact rfl) | exact rfl)
    (ha : a.put oi.dst undef = a' := by first | (simp only [Act.put, List.setIfInBounds_toArray, List.set_cons_zero, List.set_cons_succ]; done) | (simp only [Act.put, List.setIfInBounds_toArray, List.set_cons_zero, List.set_cons_succ]; exact rfl) | exact rfl) :
    wpAnyH P md ops Q S (fuel + 1) listed a w := by
  subst hl ha
  exact wpAnyH_take hi hs hf hr hQ (Or.inr ⟨hw, rfl⟩) hS h
end
end Go.Proofs.YtbdlpbladpppjaaGreatDoor
namespace Go.Proofs.YtbdlpbladpppjaaGreatDoor
open Go.ChangeShapes Go.WideShapes Go.ChangeAt Go.RowKit
open Rec (sz cs)
set_option linter.unusedVariables false
set_option maxRecDepth 100000

theorem fieldsKeyV : Tryz.prog.underlying 43 = some (.struct (Tryz.prog.fieldsOf 43)) := by kernel_rfl
theorem heldKeyV : Tryz.prog.stoodInHeld 43 = false := by kernel_rfl
theorem guardKeyV : Tryz.prog.eqGuardType Tryz.prog.depth 43 = false := by kernel_rfl
theorem eqIn_keyV (x y : KeyD) (w : World) : (Op.equalIn 10000 43 (.agg #[.int .i64 x.space, .int .i64 x.page]) (.agg #[.int .i64 y.space, .int .i64 y.page])).run Tryz.prog w = .ok (eqB x y) w := by
  obtain ⟨a, b⟩ := x
  obtain ⟨c, d⟩ := y
  rw [run_equalIn_agg w 9999 _ _ _ fieldsKeyV heldKeyV]
  simp [go_sem, Tryz.underlying43]
  by_cases h1 : a = c <;> by_cases h2 : b = d <;> simp [eqB, h1, h2]
theorem eql_keyV (x y : KeyD) (w : World) : (binOp .eql 43 (.agg #[.int .i64 x.space, .int .i64 x.page]) (.agg #[.int .i64 y.space, .int .i64 y.page])).run Tryz.prog w = .ok (.bool (eqB x y)) w := by
  rw [run_eql_struct, eqIn_keyV]; rfl
theorem usedN_le (fs : List FrameD) (k : Nat) : usedN fs k ≤ k := by
  unfold usedN
  exact Nat.le_trans (List.length_filter_le _ _) (by rw [List.length_take]; omega)

set_option maxHeartbeats 4000000 in
theorem tableS_c (t : TableD) (A : Option Addr) (c : Nat) (B : Option Addr) (d : Nat) (w : World) (hx : Rd w A t.buckets) (hy : Rd w B t.frames) (hn : t.buckets.length ≤ 1048576) (hm : t.frames.length ≤ 1048576) :
    Calls Tryz.prog 46 #[.agg #[.slice A t.buckets.length c, .slice B t.frames.length d]] w fun r w' => r = .returned (.bool (tableV t)) ∧ Ex w w' := by
  have CB := zq (fun w => l2Buckets_c (t.buckets.length : Int) w)
  by_cases hh : TableHead t
  rotate_left
  · rw [tableV_no (fun h => hh h.1)]
    have h3 : t.frames.length < 1 ∨ 16 < t.frames.length ∨ ((1 ≤ t.frames.length ∧ t.frames.length ≤ 16) ∧ bkB (t.buckets.length : Int) = false) := by
      unfold TableHead at hh
      by_cases g : 1 ≤ t.frames.length ∧ t.frames.length ≤ 16
      · exact .inr (.inr ⟨g, bkB_not.2 (by omega)⟩)
      · omega
    generalize t.frames.length = n at h3 hm ⊢
    generalize t.buckets.length = m at CB hn h3 ⊢
    clear hh hx hy
    rcases h3 with h1 | h1 | ⟨⟨h1, h2⟩, h3⟩
    · go_enter Tryz.func46, Tryz.ntmps46
      go_wp2
      go_ret
      exact ⟨rfl, (by with_reducible repeat' (first | exact Ex.refl _ | refine Ex.alloc ?_ _ | refine Ex.drew ?_ | refine Ex.put ?_ (by omega) _))⟩
    · go_enter Tryz.func46, Tryz.ntmps46
      go_wp2
      go_ret
      exact ⟨rfl, (by with_reducible repeat' (first | exact Ex.refl _ | refine Ex.alloc ?_ _ | refine Ex.drew ?_ | refine Ex.put ?_ (by omega) _))⟩
    · rw [h3] at CB
      clear h3
      go_enter Tryz.func46, Tryz.ntmps46
      go_wp2_with fail
      refine (CB.out _).mono ?_
      rintro r w1 ⟨rfl, rfl⟩
      go_wp2
      go_ret
      exact ⟨rfl, (by with_reducible repeat' (first | exact Ex.refl _ | refine Ex.alloc ?_ _ | refine Ex.drew ?_ | refine Ex.put ?_ (by omega) _))⟩
  rw [show bkB (t.buckets.length : Int) = true from bkB_iff.2 (by unfold TableHead at hh; omega)] at CB
  have HH := zq hh
  obtain ⟨⟨hn1, hn2⟩, hm1, hm2⟩ := hh
  have HX := zq hx
  have HY := zq hy
  obtain ⟨n, en⟩ : ∃ n, n = t.frames.length := ⟨_, rfl⟩
  obtain ⟨m, em⟩ : ∃ m, m = t.buckets.length := ⟨_, rfl⟩
  have HN := zq en
  have HM := zq em
  rw [← en] at hn1 hn2 ⊢
  rw [← em] at hm1 hm2 CB ⊢
  have HNO : Hid (∀ w', Ex w w' → ¬ TableOk t → (Ending.returned (.bool false) = .returned (.bool (tableV t)) ∧ Ex w w')) := zq (fun w' h1 h2 => ⟨ret_bool (tableV_no h2).symm, h1⟩)
  have CC := zq (fun b a0 w h1 h2 hb => l3Chain_c t A c B d b a0 w h1 h2 hb hn hm)
  rw [← en, ← em] at CC
  have CES : Hid (∀ (args : Array Value) (w : World), (callFunc 75 args).run Tryz.prog w = .ok (.enter 75 args) w) := zq (enters Tryz.func75 (by kernel_rfl) (by kernel_rfl))
  clear hx hy hn hm en em
  go_enter Tryz.func46, Tryz.ntmps46
  go_wp2_with fail
  refine (CB.out _).mono ?_
  rintro r w1 ⟨rfl, rfl⟩
  clear CB
  go_wp2
  go_loopw [3, 4] (fun u i wr => ∃ k : Nat, k ≤ n ∧ i = .int .i64 k ∧ u = .int .i64 (usedN t.frames k) ∧ FramesUp t.frames k ∧ Blk wr w.heap.size 26 [.slice A m c, .slice B n d] ∧ Ex w wr) (fun _ i _ => n - (intOf i).toNat)
  case atStart => exact ⟨0, Nat.zero_le _, rfl, rfl, framesUp_zero _, Blk.new _ _ _, (Ex.refl _).alloc _⟩
  case round =>
    obtain ⟨k, hk, rfl, rfl, hup, hbk, hex⟩ := hrel
    have HU := zq hup
    have KX := zq hbk
    have HE := zq hex
    clear hup hbk hex
    by_cases hlt : k < n
    · obtain ⟨b2, o2, f, rfl, hb2, hfi, k0, k1, k2, k3, k4⟩ := (HY.out.ex HE.out).frame (k := k) (by have := HN.out; omega)
      have HFI := zq hfi
      obtain ⟨q0, q1⟩ := KX.out.c2
      have jX := KX.out.lt
      have C1 := zq (fun w => l3Frame_c f w)
      cases hfb : frameB f
      · rw [hfb] at C1
        clear hfi
        go_wp2_with fail
        refine (C1.out _).mono ?_
        rintro r w2 ⟨rfl, he⟩
        have HE2 := zq (HE.out.trans he)
        have HB := zq hfb
        clear he hfb
        go_wp2
        go_ret
        exact HNO.out _ HE2.out (not_frames HFI.out (fun h => by have := frameB_iff.2 h.1; rw [HB.out] at this; cases this))
      · rw [hfb] at C1
        have HB : Hid (frameOk f) := zq (frameB_iff.1 hfb)
        clear hfi hfb
        go_wp2_with fail
        refine (C1.out _).mono ?_
        rintro r w2 ⟨rfl, he⟩
        have HE2 := zq (HE.out.trans he)
        have KX2 := zq (KX.out.ex he)
        clear he q0 q1 jX k0 k1 k2 k3 k4 C1 KX
        obtain ⟨q0, q1⟩ := KX2.out.c2
        have jX := KX2.out.lt
        obtain ⟨b3, o3, g, e3, hb3, hgi, k0, k1, k2, k3, k4⟩ := (HY.out.ex HE2.out).frame (k := k) (by have := HN.out; omega)
        cases e3
        have e : f = g := by rw [HFI.out] at hgi; injection hgi
        subst e
        clear hgi
        have hul := usedN_le t.frames k
        have HUS := zq (usedN_succ HFI.out)
        generalize usedN t.frames k = un at hul HUS ⊢
        cases hu : f.used
        · have HFU := zq hu
          rw [hu] at k0
          clear hu
          go_wp2
          clear q0 q1 jX k0 k1 k2 k3 k4
          go_loopw [5] (fun i wq => ∃ j : Nat, j ≤ k ∧ i = .int .i64 j ∧ Ex w2 wq) (fun i _ => k - (intOf i).toNat)
          case atStart => exact ⟨0, Nat.zero_le _, rfl, Ex.refl _⟩
          case round =>
            obtain ⟨j, hj, rfl, hq⟩ := hrel
            have HQ := zq hq
            skip
            clear hq
            by_cases hjk : j < k
            · obtain ⟨q0, q1⟩ := (KX2.out.ex HQ.out).c2
              have jX := (KX2.out.ex HQ.out).lt
              obtain ⟨b4, o4, g4, e4, hb4, hg4, k0, k1, k2, k3, k4⟩ := (HY.out.ex (HE2.out.trans HQ.out)).frame (k := k) (by have := HN.out; omega)
              cases e4
              have e : g4 = f := by rw [HFI.out] at hg4; injection hg4 with e; exact e.symm
              rw [e] at k0 k1 k2 k3 k4
              rw [HFU.out] at k0
              clear hg4 e
              go_wp2_with fail
              go_quiet (fail)
              go_wp2
              go_roundw
              case rel => exact ⟨j + 1, by omega, by go_num, HQ.out.drewN _⟩
              case measure => simp [intOf]; omega
            · obtain rfl : j = k := by omega
              go_wp2
              go_roundw
              case rel => exact ⟨j + 1, by omega, by go_num, by rw [HUS.out, HFU.out]; simp, framesUp_succ HU.out HFI.out HB.out (fun j' g hj' hg h1 => by rw [HFU.out] at h1; cases h1), KX2.out.ex HQ.out, HE2.out.trans HQ.out⟩
              case measure => simp [intOf]; omega
        · have HFU := zq hu
          rw [hu] at k0
          clear hu
          go_wp2
          clear q0 q1 jX k0 k1 k2 k3 k4
          go_loopw [5] (fun i wq => ∃ j : Nat, j ≤ k ∧ i = .int .i64 j ∧ Ex w2 wq ∧ ∀ j' g, j' < j → t.frames[j']? = some g → g.used = true → g.key ≠ f.key) (fun i _ => k - (intOf i).toNat)
          case atStart => exact ⟨0, Nat.zero_le _, rfl, Ex.refl _, fun j' g h => by omega⟩
          case round =>
            obtain ⟨j, hj, rfl, hq, hall⟩ := hrel
            have HQ := zq hq
            have HALL := zq hall
            clear hq hall
            by_cases hjk : j < k
            · obtain ⟨q0, q1⟩ := (KX2.out.ex HQ.out).c2
              have jX := (KX2.out.ex HQ.out).lt
              obtain ⟨b4, o4, g4, e4, hb4, hg4, k0, k1, k2, k3, k4⟩ := (HY.out.ex (HE2.out.trans HQ.out)).frame (k := k) (by have := HN.out; omega)
              cases e4
              have e : g4 = f := by rw [HFI.out] at hg4; injection hg4 with e; exact e.symm
              rw [e] at k0 k1 k2 k3 k4
              rw [HFU.out] at k0
              clear hg4 e
              obtain ⟨b5, o5, g, e5, hb5, hgj, p0, p1, p2, p3, p4⟩ := (HY.out.ex (HE2.out.trans HQ.out)).frame (k := j) (by have := HN.out; omega)
              cases e5
              have HGJ := zq hgj
              clear hgj
              cases hgu : g.used
              · have HGU := zq hgu
                rw [hgu] at p0
                clear hgu
                go_wp2_with fail
                go_quiet (fail)
                go_wp2
                go_roundw
                case rel => exact ⟨j + 1, by omega, by go_num, HQ.out.drewN _, fun j' g' hj' hg' h1 => by
                  by_cases e : j' = j
                  · subst e
                    rw [HGJ.out] at hg'
                    injection hg' with hg'
                    rw [← hg', HGU.out] at h1
                    cases h1
                  · exact HALL.out j' g' (by omega) hg' h1⟩
                case measure => simp [intOf]; omega
              · have HGU := zq hgu
                rw [hgu] at p0
                have hz := eql_keyV g.key f.key
                have hgd := guardKeyV
                cases hkk : eqB g.key f.key
                · rw [hkk] at hz
                  have HKK := zq (eqB_false.1 hkk)
                  clear hgu hkk
                  go_wp2_with fail
                  go_quiet (fail)
                  go_wp2
                  go_roundw
                  case rel => exact ⟨j + 1, by omega, by go_num, HQ.out.drewN _, fun j' g' hj' hg' h1 => by
                    by_cases e : j' = j
                    · subst e
                      rw [HGJ.out] at hg'
                      injection hg' with hg'
                      rw [← hg']
                      exact HKK.out
                    · exact HALL.out j' g' (by omega) hg' h1⟩
                  case measure => simp [intOf]; omega
                · rw [hkk] at hz
                  have HKK := zq (eqB_true.1 hkk)
                  clear hgu hkk
                  go_wp2_with fail
                  go_quiet (fail)
                  go_wp2
                  go_ret
                  exact HNO.out _ ((HE2.out.trans HQ.out).drewN _) (not_frames HFI.out (fun h => h.2 j g hjk HGJ.out HFU.out HGU.out HKK.out))
            · obtain rfl : j = k := by omega
              go_wp2
              go_roundw
              case rel => exact ⟨j + 1, by omega, by go_num, by rw [HUS.out, HFU.out]; exact congrArg _ (by simp), framesUp_succ HU.out HFI.out HB.out (fun j' g hj' hg _ => HALL.out j' g hj' hg), KX2.out.ex HQ.out, HE2.out.trans HQ.out⟩
              case measure => simp [intOf]; omega
    · -- BUCKETS
      obtain rfl : k = n := by omega
      have HU3 : Hid (FramesUp t.frames t.frames.length) := zq (by rw [← HN.out]; exact HU.out)
      have hul := usedN_le t.frames k
      have HUN : Hid (usedN t.frames k = usedN t.frames t.frames.length) := zq (by rw [← HN.out])
      generalize usedN t.frames k = un at hul HUN ⊢
      obtain ⟨q0, q1⟩ := KX.out.c2
      have jX := KX.out.lt
      clear HU
      go_wp2
      clear q0 q1 jX
      go_loopw [3, 6] (fun u i wb => ∃ (b : Nat) (ls : List (List Nat)), b ≤ m ∧ i = .int .i64 b ∧ u = .int .i64 ((un : Int) - (sumL ls : Int)) ∧ Buckets t b ls ∧ sumL ls ≤ 16 * b ∧ Ex wr wb) (fun _ i _ => m - (intOf i).toNat)
      case atStart => exact ⟨0, [], Nat.zero_le _, rfl, by simp [sumL], Buckets.zero _, Nat.zero_le _, Ex.refl _⟩
      case round =>
        obtain ⟨b, ls, hb, rfl, rfl, hbu, hsl, hexb⟩ := hrel
        have HBU := zq hbu
        have HEB := zq hexb
        have HE3 := zq (HE.out.trans hexb)
        have KX2 := zq (KX.out.ex hexb)
        clear hbu hexb
        obtain ⟨q0, q1⟩ := KX2.out.c2
        have jX := KX2.out.lt
        by_cases hbm : b < m
        · obtain ⟨a0, ha0⟩ : ∃ a, t.buckets[b]? = some a := ⟨_, List.getElem?_eq_getElem (by have := HM.out; omega)⟩
          have HA0 := zq ha0
          clear ha0
          generalize hsm : sumL ls = sl at hsl ⊢
          have HSM := zq hsm
          clear hsm
          go_wp2_with fail
          refine (CC.out b a0 _ (HX.out.ex HE3.out) (HY.out.ex HE3.out) HA0.out).mono ?_
          rintro r w3 ⟨l, ok, A3, c3, rfl, hok, hno, hll, hrd, he⟩
          have HOK := zq hok
          have HNOC := zq hno
          have HRD := zq hrd
          have HE4 := zq (HE3.out.trans he)
          have HEB3 := zq (HEB.out.trans he)
          have KX3 := zq (KX2.out.ex he)
          have hll' : l.length ≤ k := by have := HN.out; omega
          clear hok hno hrd he hll q0 q1 jX KX2
          cases ok
          · have HNC := zq (HNOC.out rfl)
            clear HNOC HOK
            go_wp2
            go_ret
            exact HNO.out _ HE4.out (not_nochain HA0.out HNC.out)
          have HCH := zq (HOK.out rfl)
          clear HOK HNOC
          go_wp2
          go_loopw [9] (fun i wq => ∃ j : Nat, j ≤ l.length ∧ i = .int .i64 j ∧ Ex w3 wq ∧ ∀ (j' x : Nat) (f : FrameD), j' < j → l[j']? = some x → t.frames[x]? = some f → hashK f.key t.buckets.length = b) (fun i _ => l.length - (intOf i).toNat)
          case atStart => exact ⟨0, Nat.zero_le _, rfl, Ex.refl _, fun j' x f h => by omega⟩
          case round =>
            obtain ⟨j, hj, rfl, hq, hall⟩ := hrel
            have HQ := zq hq
            have HALL := zq hall
            clear hq hall
            by_cases hjl : j < l.length
            · obtain ⟨b5, o5, y, rfl, hb5, hyj, hcy⟩ := (HRD.out.ex HQ.out).int (k := j) (by rw [nums_len]; exact hjl)
              obtain ⟨x, hxj⟩ : ∃ x, l[j]? = some x := ⟨_, List.getElem?_eq_getElem hjl⟩
              have e : y = (x : Int) := by unfold nums at hyj; rw [List.getElem?_map, hxj] at hyj; injection hyj with e; exact e.symm
              subst e
              obtain ⟨f, hfx, hfu⟩ := HCH.out.in_ (List.mem_of_getElem? hxj)
              have hxn : x < k := by have := getElem?_lt hfx; have := HN.out; omega
              have hkok : keyOk f.key := ((HU3.out x f (getElem?_lt hfx) hfx).1.2 hfu).1
              obtain ⟨b2, o2, f', rfl, hb2, hfx', k0, k1, k2, k3, k4⟩ := (HY.out.ex (HE4.out.trans HQ.out)).frame (k := x) (by have := HN.out; omega)
              have e : f' = f := by rw [hfx] at hfx'; injection hfx' with e; exact e.symm
              subst e
              have HXJ := zq hxj
              have HFX := zq hfx
              have FK : Hid (∀ w', Ex wr w' → (w'.cell? ⟨w.heap.size, 0, none⟩ = some (.slice A m c) ∧ w'.cell? ⟨w.heap.size, 1, none⟩ = some (.slice (some ⟨b2, o2, none⟩) k d) ∧ w'.cell? ⟨b5, o5 + j, none⟩ = some (.int .i64 x) ∧ w'.cell? ⟨b2, o2 + x * 5 + 1, none⟩ = some (.int .i64 f'.key.space) ∧ w'.cell? ⟨b2, o2 + x * 5 + 2, none⟩ = some (.int .i64 f'.key.page))) := zq (fun w' h => ⟨((KX3.out.ex HQ.out).ex h).c2.1, ((KX3.out.ex HQ.out).ex h).c2.2, (h.cell hb5).trans hcy, (h.cell hb2).trans k1, (h.cell hb2).trans k2⟩)
              have CH := zq (fun w => hashS_c f'.key (m : Int) w hkok (by omega) (by omega))
              have HHV : Hid (hashK f'.key (m : Int) = hashK f'.key t.buckets.length) := zq (by rw [← HM.out])
              generalize hashK f'.key (m : Int) = hv at CH HHV
              clear hyj hxj hfx hfx' k0 k1 k2 k3 k4 hcy hkok hfu
              by_cases ehv : hv = (b : Int)
              · subst ehv
                obtain ⟨m0, m1, m2, m3, m4⟩ := FK.out wr (Ex.refl _)
                have jX := (KX3.out.ex HQ.out).lt
                go_wp2_with fail
                clear m0 m1 m2 m3 m4 jX
                refine wp_region_held_drew (S := (fun w' => (w'.cell? ⟨w.heap.size, 0, none⟩ = some (.slice A m c) ∧ w'.cell? ⟨w.heap.size, 1, none⟩ = some (.slice (some ⟨b2, o2, none⟩) k d) ∧ w'.cell? ⟨b5, o5 + j, none⟩ = some (.int .i64 x) ∧ w'.cell? ⟨b2, o2 + x * 5 + 1, none⟩ = some (.int .i64 f'.key.space) ∧ w'.cell? ⟨b2, o2 + x * 5 + 2, none⟩ = some (.int .i64 f'.key.page)))) (by kernel_rfl) ?r0_hS0 (fun hHeld => ?_)
                case r0_hS0 => exact FK.out _ (Ex.refl _).drew
                refine tk 0 ?_; refine tk 1 ?_; refine tk 2 ?_; refine tk 3 ?_; refine tk 4 ?_; refine tk 5 ?_; refine tk 6 ?_; refine tk 7 ?_; refine tk 8 ?_; refine tk 9 ?_; refine tk 10 ?_; refine tk 11 ?_; refine tk 13 ?_
                refine wpAnyH_ready (rs := [12]) (by kernel_rfl) (by simp) ?_
                refine AllReadyH.cons (o := ?r0_o12) ?r0_ho12 (fun K hK => ?_) AllReadyH.nil
                case r0_ho12 => (conv => lhs; whnf; arg 1; whnf)
                refine step_call_gu rfl CES.out _ _ rfl #[.agg #[  .int .i64 f'.key.space, .int .i64 f'.key.page], .int .i64 m] rfl (CH.out _) ?_; rintro r wa ⟨rfl, hwa⟩; refine ⟨_, rfl, ?_⟩; have hxa := Ex.trans (Ex.refl _).drew hwa
                refine hK.out _ _ ?r0_hS12 (fun hHeld12 => ?_)
                case r0_hS12 => exact FK.out _ hxa
                clear hK K hHeld
                try simp only [Act.put, List.setIfInBounds_toArray, List.set_cons_zero, List.set_cons_succ]
                refine tk 14 ?_
                refine wpAnyH_done (by kernel_rfl) ?_ _
                go_wp2
                go_roundw
                case rel => exact ⟨j + 1, by omega, by go_num, HQ.out.trans hxa, fun j' x' g hj' hx' hg => by
                  by_cases e : j' = j
                  · subst e
                    rw [HXJ.out] at hx'
                    injection hx' with hx'
                    subst hx'
                    rw [HFX.out] at hg
                    injection hg with hg
                    subst hg
                    exact HHV.out.symm
                  · exact HALL.out j' x' g (by omega) hx' hg⟩
                case measure => simp [intOf]; omega
              · have HEHV := zq ehv
                obtain ⟨m0, m1, m2, m3, m4⟩ := FK.out wr (Ex.refl _)
                have jX := (KX3.out.ex HQ.out).lt
                go_wp2_with fail
                clear m0 m1 m2 m3 m4 jX
                refine wp_region_held_drew (S := (fun w' => (w'.cell? ⟨w.heap.size, 0, none⟩ = some (.slice A m c) ∧ w'.cell? ⟨w.heap.size, 1, none⟩ = some (.slice (some ⟨b2, o2, none⟩) k d) ∧ w'.cell? ⟨b5, o5 + j, none⟩ = some (.int .i64 x) ∧ w'.cell? ⟨b2, o2 + x * 5 + 1, none⟩ = some (.int .i64 f'.key.space) ∧ w'.cell? ⟨b2, o2 + x * 5 + 2, none⟩ = some (.int .i64 f'.key.page)))) (by kernel_rfl) ?r1_hS0 (fun hHeld => ?_)
                case r1_hS0 => exact FK.out _ (Ex.refl _).drew
                refine tk 0 ?_; refine tk 1 ?_; refine tk 2 ?_; refine tk 3 ?_; refine tk 4 ?_; refine tk 5 ?_; refine tk 6 ?_; refine tk 7 ?_; refine tk 8 ?_; refine tk 9 ?_; refine tk 10 ?_; refine tk 11 ?_; refine tk 13 ?_
                refine wpAnyH_ready (rs := [12]) (by kernel_rfl) (by simp) ?_
                refine AllReadyH.cons (o := ?r1_o12) ?r1_ho12 (fun K hK => ?_) AllReadyH.nil
                case r1_ho12 => (conv => lhs; whnf; arg 1; whnf)
                refine step_call_gu rfl CES.out _ _ rfl #[.agg #[  .int .i64 f'.key.space, .int .i64 f'.key.page], .int .i64 m] rfl (CH.out _) ?_; rintro r wa ⟨rfl, hwa⟩; refine ⟨_, rfl, ?_⟩; have hxa := Ex.trans (Ex.refl _).drew hwa
                refine hK.out _ _ ?r1_hS12 (fun hHeld12 => ?_)
                case r1_hS12 => exact FK.out _ hxa
                clear hK K hHeld
                try simp only [Act.put, List.setIfInBounds_toArray, List.set_cons_zero, List.set_cons_succ]
                refine tk 14 ?_
                refine wpAnyH_done (by kernel_rfl) ?_ _
                go_wp2
                go_ret
                exact HNO.out _ ((HE4.out.trans HQ.out).trans hxa) (not_hash HA0.out HCH.out (List.mem_of_getElem? HXJ.out) HFX.out (by rw [← HHV.out]; exact HEHV.out))
            · obtain rfl : j = l.length := by omega
              go_wp2
              go_roundw
              case rel => exact ⟨b + 1, ls ++ [l], by omega, by go_num, by rw [sumL_succ, HSM.out]; exact congrArg _ (by omega), HBU.out.succ HA0.out HCH.out (fun x f hx hf => by
                obtain ⟨j', hj', e⟩ := List.getElem_of_mem hx
                exact HALL.out j' x f hj' (by rw [List.getElem?_eq_getElem hj', e]) hf), by rw [sumL_succ, HSM.out]; omega, HEB3.out.trans HQ.out⟩
              case measure => simp [intOf]; omega
        · obtain rfl : b = m := by omega
          go_wp2
          go_ret
          refine ⟨ret_bool ?_, HE3.out⟩
          rw [Bool.eq_iff_iff, tableV_iff, tableOk_end HH.out HU3.out (HM.out ▸ HBU.out), ← HUN.out]
          simp
          omega

set_option maxHeartbeats 4000000 in
theorem l3Find_c (t : TableD) (A : Option Addr) (c : Nat) (B : Option Addr) (d : Nat) (k : KeyD) (w : World) (hx : Rd w A t.buckets) (hy : Rd w B t.frames) (hok : TableOk t) (hk : keyOk k) :
    Calls Tryz.prog 79 #[.agg #[.slice A t.buckets.length c, .slice B t.frames.length d], .agg #[.int .i64 k.space, .int .i64 k.page]] w fun r w' => (∃ s : Int, r = .returned (.tuple #[.int .i64 (findF t k), .int .i64 s])) ∧ Ex w w' := by
  obtain ⟨⟨hn1, hn2⟩, hm1, hm2⟩ := hok.1
  obtain ⟨hv1, hv2⟩ := hashK_range (n := t.buckets.length) hk hm1 hm2
  obtain ⟨b, eb⟩ : ∃ b : Nat, hashK k t.buckets.length = (b : Int) := ⟨(hashK k t.buckets.length).toNat, by omega⟩
  have hbm : b < t.buckets.length := by omega
  obtain ⟨a0, ha0⟩ : ∃ a, t.buckets[b]? = some a := ⟨_, List.getElem?_eq_getElem hbm⟩
  obtain ⟨l0, hl0, _⟩ := hok.bucket ha0
  have HX := zq hx
  have HY := zq hy
  have HL0 := zq hl0
  have CC := zq (fun w h1 h2 => l3Chain_c t A c B d b a0 w h1 h2 ha0 (by omega) (by omega))
  have CH := zq (fun w => hashS_c k (t.buckets.length : Int) w hk (by omega) (by omega))
  rw [eb] at CH
  have HIT := zq (fun x f h1 h2 h3 => @findF_hit t k hok x f h1 h2 h3)
  have HMISS := zq (fun l hl hno => @findF_miss t k hok b a0 l eb ha0 hl hno)
  obtain ⟨n, en⟩ : ∃ n, n = t.frames.length := ⟨_, rfl⟩
  obtain ⟨m, em⟩ : ∃ m, m = t.buckets.length := ⟨_, rfl⟩
  have HN := zq en
  rw [← en] at hn1 hn2 CC ⊢
  rw [← em] at hm1 hm2 hbm CC CH ⊢
  generalize findF t k = res at HIT HMISS ⊢
  have CES : Hid (∀ (args : Array Value) (w : World), (callFunc 75 args).run Tryz.prog w = .ok (.enter 75 args) w) := zq (enters Tryz.func75 (by kernel_rfl) (by kernel_rfl))
  have CEC : Hid (∀ (args : Array Value) (w : World), (callFunc 74 args).run Tryz.prog w = .ok (.enter 74 args) w) := zq (enters Tryz.func74 (by kernel_rfl) (by kernel_rfl))
  clear hx hy hl0 ha0 eb hv1 hv2 hok hk en em
  go_enter Tryz.func79, Tryz.ntmps79
  go_wp2_with fail
  obtain ⟨w0, hw0⟩ : ∃ w0 : World, w0 = (w.alloc (.cells #[.slice A m c, .slice B n d] 26)).alloc (.cells #[.int .i64 k.space, .int .i64 k.page] 43) := ⟨_, rfl⟩
  obtain ⟨gt, hgt⟩ : ∃ gt : Nat, gt = w.heap.size := ⟨_, rfl⟩
  obtain ⟨gk, hgk⟩ : ∃ gk : Nat, gk = w.heap.size + 1 := ⟨_, rfl⟩
  have K0 : Hid (Blk w0 gt 26 [.slice A m c, .slice B n d]) := zq (by rw [hw0, hgt]; exact (Blk.new w _ _).alloc _)
  have K1 : Hid (Blk w0 gk 43 [.int .i64 k.space, .int .i64 k.page]) := zq (by rw [hw0, hgk]; exact Blk.new_at _ _ _ (by simp))
  have E0 : Hid (Ex w w0) := zq (by rw [hw0]; exact ((Ex.refl w).alloc _).alloc _)
  rw [← hw0]
  try rw [← hgk]
  rw [← hgt]
  clear hw0 hgt hgk
  have FK : Hid (∀ w', Ex w0 w' → (w'.cell? ⟨gt, 0, none⟩ = some (.slice A m c) ∧ w'.cell? ⟨gt, 1, none⟩ = some (.slice B n d) ∧ w'.cell? ⟨gk, 0, none⟩ = some (.int .i64 k.space) ∧ w'.cell? ⟨gk, 1, none⟩ = some (.int .i64 k.page))) := zq (fun w' h => ⟨(K0.out.ex h).c2.1, (K0.out.ex h).c2.2, (K1.out.ex h).c2.1, (K1.out.ex h).c2.2⟩)
  refine wp_region_held_drew (S := (fun w' => (w'.cell? ⟨gt, 0, none⟩ = some (.slice A m c) ∧ w'.cell? ⟨gt, 1, none⟩ = some (.slice B n d) ∧ w'.cell? ⟨gk, 0, none⟩ = some (.int .i64 k.space) ∧ w'.cell? ⟨gk, 1, none⟩ = some (.int .i64 k.page)))) (by kernel_rfl) ?r0_hS0 (fun hHeld => ?_)
  case r0_hS0 => exact FK.out _ (Ex.refl _).drew
  refine tk 0 ?_; refine tk 1 ?_; refine tk 2 ?_; refine tk 3 ?_; refine tk 4 ?_
  refine wpAnyH_ready (rs := [5]) (by kernel_rfl) (by simp) ?_
  refine AllReadyH.cons (o := ?r0_o5) ?r0_ho5 (fun K hK => ?_) AllReadyH.nil
  case r0_ho5 => (conv => lhs; whnf; arg 1; whnf)
  refine step_call_gu rfl CES.out _ _ rfl #[.agg #[.int .i64 k.space, .int .i64 k.page], .int .i64 m] rfl (CH.out _) ?_; rintro r wa ⟨rfl, hwa⟩; refine ⟨_, rfl, ?_⟩; have hxa := Ex.trans (Ex.refl _).drew hwa
  refine hK.out _ _ ?r0_hS5 (fun hHeld5 => ?_)
  case r0_hS5 => exact FK.out _ hxa
  clear hK K hHeld
  try simp only [Act.put, List.setIfInBounds_toArray, List.set_cons_zero, List.set_cons_succ]
  refine wpAnyH_ready (rs := [6]) (by kernel_rfl) (by simp) ?_
  refine AllReadyH.cons (o := ?r0_o6) ?r0_ho6 (fun K hK => ?_) AllReadyH.nil
  case r0_ho6 => (conv => lhs; whnf; arg 1; whnf)
  refine step_call_gu rfl CEC.out _ _ rfl #[.agg #[.slice A m c, .slice B n d], .int .i64 b] rfl (CC.out _ (HX.out.ex (E0.out.trans hxa)) (HY.out.ex (E0.out.trans hxa))) ?_; rintro r w3 ⟨l, ok, A3, c3, rfl, hok3, hno3, hll, hrd, he⟩; obtain rfl : ok = true := (by cases ok; exact absurd HL0.out (hno3 rfl _); rfl); have e : l0 = l := HL0.out.one (hok3 rfl); subst e; refine ⟨_, rfl, ?_⟩; have hx3 := Ex.trans hxa he
  refine hK.out _ _ ?r0_hS6 (fun hHeld6 => ?_)
  case r0_hS6 => exact FK.out _ hx3
  clear hK K hHeld5
  try simp only [Act.put, List.setIfInBounds_toArray, List.set_cons_zero, List.set_cons_succ]
  refine tk 7 ?_; refine tk 8 ?_; refine tk 9 ?_; refine tk 10 ?_; refine tk 11 ?_
  refine wpAnyH_done (by kernel_rfl) ?_ _
  have HX3 := zq hx3
  have HRD := zq hrd
  have hll' : l0.length ≤ n := by have := HN.out; omega
  clear hx3 hxa he hwa hno3 hok3 hll hrd
  go_wp2
  go_loopw [8] (fun i wq => ∃ j : Nat, j ≤ l0.length ∧ i = .int .i64 j ∧ Ex w3 wq ∧ ∀ (j' x : Nat) (f : FrameD), j' < j → l0[j']? = some x → t.frames[x]? = some f → f.key ≠ k) (fun i _ => l0.length - (intOf i).toNat)
  case atStart => exact ⟨0, Nat.zero_le _, rfl, Ex.refl _, fun j' x f h => by omega⟩
  case round =>
    obtain ⟨j, hj, rfl, hq, hall⟩ := hrel
    have HQ := zq (HX3.out.trans hq)
    have HQ3 := zq hq
    have HALL := zq hall
    clear hq hall
    by_cases hjl : j < l0.length
    · obtain ⟨b5, o5, y, rfl, hb5, hyj, hcy⟩ := (HRD.out.ex HQ3.out).int (k := j) (by rw [nums_len]; exact hjl)
      obtain ⟨x, hxj⟩ : ∃ x, l0[j]? = some x := ⟨_, List.getElem?_eq_getElem hjl⟩
      have e : y = (x : Int) := by unfold nums at hyj; rw [List.getElem?_map, hxj] at hyj; injection hyj with e; exact e.symm
      subst e
      obtain ⟨f, hfx, hfu⟩ := HL0.out.in_ (List.mem_of_getElem? hxj)
      have hxn : x < n := by have := getElem?_lt hfx; have := HN.out; omega
      obtain ⟨b2, o2, f', rfl, hb2, hfx', k0, k1, k2, k3, k4⟩ := (HY.out.ex (E0.out.trans HQ.out)).frame (k := x) (by have := HN.out; omega)
      have e : f' = f := by rw [hfx] at hfx'; injection hfx' with e; exact e.symm
      subst e
      have HXJ := zq hxj
      have HFX := zq hfx
      have HFU := zq hfu
      have FK2 : Hid (∀ w', Ex wr w' → (w'.cell? ⟨gt, 1, none⟩ = some (.slice (some ⟨b2, o2, none⟩) n d) ∧ w'.cell? ⟨gk, 0, none⟩ = some (.int .i64 k.space) ∧ w'.cell? ⟨gk, 1, none⟩ = some (.int .i64 k.page) ∧ w'.cell? ⟨b5, o5 + j, none⟩ = some (.int .i64 x) ∧ w'.cell? ⟨b2, o2 + x * 5 + 1, none⟩ = some (.int .i64 f'.key.space) ∧ w'.cell? ⟨b2, o2 + x * 5 + 2, none⟩ = some (.int .i64 f'.key.page))) := zq (fun w' h => ⟨(K0.out.ex (HQ.out.trans h)).c2.2, (K1.out.ex (HQ.out.trans h)).c2.1, (K1.out.ex (HQ.out.trans h)).c2.2, (h.cell hb5).trans hcy, (h.cell hb2).trans k1, (h.cell hb2).trans k2⟩)
      have hz := eql_keyV f'.key k
      have hgd := guardKeyV
      clear hyj hxj hfx hfx' k0 k1 k2 k3 k4 hcy hfu hb2 hb5
      cases hek : eqB f'.key k
      · rw [hek] at hz
        have HEK := zq (eqB_false.1 hek)
        clear hek
        go_wp2_with fail
        refine wp_region_held_drew (S := (fun w' => (w'.cell? ⟨gt, 1, none⟩ = some (.slice (some ⟨b2, o2, none⟩) n d) ∧ w'.cell? ⟨gk, 0, none⟩ = some (.int .i64 k.space) ∧ w'.cell? ⟨gk, 1, none⟩ = some (.int .i64 k.page) ∧ w'.cell? ⟨b5, o5 + j, none⟩ = some (.int .i64 x) ∧ w'.cell? ⟨b2, o2 + x * 5 + 1, none⟩ = some (.int .i64 f'.key.space) ∧ w'.cell? ⟨b2, o2 + x * 5 + 2, none⟩ = some (.int .i64 f'.key.page)))) (by kernel_rfl) ?r1_hS0 (fun hHeld => ?_)
        case r1_hS0 => exact FK2.out _ (Ex.refl _).drew
        refine tk 0 ?_; refine tk 1 ?_; refine tk 2 ?_; refine tk 3 ?_; refine tk 4 ?_; refine tk 5 ?_; refine tk 6 ?_; refine tk 7 ?_; refine tk 8 ?_; refine tk 9 ?_; refine tk 10 ?_
        refine wpAnyH_done (by kernel_rfl) ?_ _
        clear hz hgd
        go_wp2
        go_roundw
        case rel => exact ⟨j + 1, by omega, by go_num, HQ3.out.drew, fun j' x' g hj' hx' hg => by
          by_cases e : j' = j
          · subst e
            rw [HXJ.out] at hx'
            injection hx' with hx'
            subst hx'
            rw [HFX.out] at hg
            injection hg with hg
            subst hg
            exact HEK.out
          · exact HALL.out j' x' g (by omega) hx' hg⟩
        case measure => simp [intOf]; omega
      · rw [hek] at hz
        obtain rfl : res = (x : Int) := HIT.out x f' HFX.out HFU.out (eqB_true.1 hek)
        clear hek
        obtain ⟨m0, m1, m2, m3, m4, m5⟩ := FK2.out wr.drew (Ex.refl _).drew
        clear m0 m1 m2 m4 m5
        go_wp2_with fail
        refine wp_region_held_drew (S := (fun w' => (w'.cell? ⟨gt, 1, none⟩ = some (.slice (some ⟨b2, o2, none⟩) n d) ∧ w'.cell? ⟨gk, 0, none⟩ = some (.int .i64 k.space) ∧ w'.cell? ⟨gk, 1, none⟩ = some (.int .i64 k.page) ∧ w'.cell? ⟨b5, o5 + j, none⟩ = some (.int .i64 x) ∧ w'.cell? ⟨b2, o2 + x * 5 + 1, none⟩ = some (.int .i64 f'.key.space) ∧ w'.cell? ⟨b2, o2 + x * 5 + 2, none⟩ = some (.int .i64 f'.key.page)))) (by kernel_rfl) ?r2_hS0 (fun hHeld => ?_)
        case r2_hS0 => exact FK2.out _ (Ex.refl _).drew
        refine tk 0 ?_; refine tk 1 ?_; refine tk 2 ?_; refine tk 3 ?_; refine tk 4 ?_; refine tk 5 ?_; refine tk 6 ?_; refine tk 7 ?_; refine tk 8 ?_; refine tk 9 ?_; refine tk 10 ?_
        refine wpAnyH_done (by kernel_rfl) ?_ _
        clear hz hgd
        go_wp2
        go_ret2
        exact ⟨⟨_, rfl⟩, (E0.out.trans HQ.out).drew⟩
    · obtain rfl : j = l0.length := by omega
      obtain rfl : res = -1 := HMISS.out l0 HL0.out (fun x f hx hf => by
        obtain ⟨j', hj', e⟩ := List.getElem_of_mem hx
        exact HALL.out j' x f hj' (by rw [List.getElem?_eq_getElem hj', e]) hf)
      go_wp2
      go_ret2
      exact ⟨⟨_, rfl⟩, E0.out.trans HQ.out⟩

set_option maxHeartbeats 1000000 in
theorem find1_c (f : FrameD) (k : KeyD) (w : World) (gk : Nat) (hk : Blk w gk 43 [.int .i64 k.space, .int .i64 k.page]) :
    Calls Tryz.prog 60 #[.agg #[.bool f.used, .int .i64 f.key.space, .int .i64 f.key.page, .int .i64 f.rights, .int .i64 f.next], .pointer (some ⟨gk, 0, none⟩)] w fun r w' => r = .returned (.bool (fitsKey k f)) ∧ Ex w w' := by
  obtain ⟨p0, p1⟩ := hk.c2
  have lk := hk.lt
  have hz := eql_keyV f.key k
  have hgd := guardKeyV
  unfold fitsKey
  clear hk
  cases hu : f.used
  · go_enter Tryz.func60, Tryz.ntmps60
    go_wp2
    go_ret
    exact ⟨ret_bool (by simp), (Ex.refl _).alloc _⟩
  · generalize eqB f.key k = res at hz ⊢
    go_enter Tryz.func60, Tryz.ntmps60
    go_wp2
    go_ret
    exact ⟨ret_bool (by simp), (Ex.refl _).alloc _⟩

set_option maxHeartbeats 1000000 in
theorem indexFind_c (xs : List FrameD) (k : KeyD) (A : Option Addr) (c : Nat) (w : World) (gk : Nat) (hx : Rd w A xs) (hn : xs.length ≤ 1048576) (hk : Blk w gk 43 [.int .i64 k.space, .int .i64 k.page]) :
    Calls Tryz.prog 59 #[.slice A xs.length c, .func (.func 60) #[] #[.pointer (some ⟨gk, 0, none⟩)]] w fun r w' => r = .returned (.int .i64 (firstOf (fitsKey k) xs)) ∧ Ex w w' := by
  have B1 := zq (fun k' x => @firstOf_at _ (fitsKey k) xs k' x)
  have B2 := zq (@firstOf_none _ (fitsKey k) xs)
  generalize firstOf (fitsKey k) xs = res at *
  obtain ⟨n, hn1⟩ : ∃ n, n = xs.length := ⟨_, rfl⟩
  have HN := zq hn1
  rw [← hn1] at B2 hn ⊢
  have HX := zq hx
  have HK := zq hk
  clear hn1 hx hk
  go_enter Tryz.func59, Tryz.ntmps59
  go_wp2
  go_loopw [8] (fun i wr => ∃ q : Nat, q ≤ n ∧ i = .int .i64 q ∧ Ex w wr ∧ ∀ (j : Nat) (y : FrameD), j < q → xs[j]? = some y → fitsKey k y = false) (fun i _ => n - (intOf i).toNat)
  case atStart => exact ⟨0, Nat.zero_le _, rfl, Ex.refl _, fun j y h => by omega⟩
  case round =>
    obtain ⟨q, hq, rfl, hbel, hcl⟩ := hrel
    have HB := zq hbel
    have HCL := zq hcl
    clear hbel hcl
    by_cases hlt : q < n
    · obtain ⟨b1, o1, x, rfl, hb1, hxk, h0, h1, h2, h3, h4⟩ := Rd.frame (HX.out.ex HB.out) (k := q) (by have := HN.out; omega)
      have HXK := zq hxk
      clear hxk
      go_wp2_with fail
      refine (find1_c x k _ _ (HK.out.ex HB.out)).mono ?_
      rintro r w2 ⟨rfl, hb2⟩
      have HB2 := zq hb2
      clear hb2 h0 h1 h2 h3 h4
      cases hv : fitsKey k x
      · have HV := zq hv
        go_wp2
        go_roundw
        case rel => exact ⟨q + 1, by omega, by go_num, HB.out.trans HB2.out, fun j z hj hz => by
          by_cases e : j = q
          · subst e
            have := HXK.out
            rw [this] at hz
            injection hz with hz
            rw [← hz]; exact HV.out
          · exact HCL.out j z (by omega) hz⟩
        case measure => simp [intOf]; omega
      · obtain rfl : res = (q : Int) := B1.out q x HXK.out hv HCL.out
        go_wp2
        go_ret
        exact ⟨rfl, HB.out.trans HB2.out⟩
    · obtain rfl : q = n := by omega
      obtain rfl : res = -1 := B2.out HCL.out
      go_wp2
      go_ret
      exact ⟨rfl, HB.out⟩

set_option maxHeartbeats 1000000 in
theorem findI_c (t : TableD) (A : Option Addr) (c : Nat) (B : Option Addr) (d : Nat) (k : KeyD) (w : World) (hy : Rd w B t.frames) (hm : t.frames.length ≤ 1048576) :
    Calls Tryz.prog 29 #[.agg #[.slice A t.buckets.length c, .slice B t.frames.length d], .agg #[.int .i64 k.space, .int .i64 k.page]] w fun r w' => r = .returned (.int .i64 (findF t k)) ∧ Ex w w' := by
  have HY := zq hy
  clear hy
  unfold findF
  have hmf : ∀ (fn : Fn) (first cap : Array Value) (w : World), (Instr.makeFunc fn first cap).run Tryz.prog w = .ok (.func fn first cap) w := fun _ _ _ _ => rfl
  go_enter Tryz.func29, Tryz.ntmps29
  go_wp2_with fail
  refine (indexFind_c t.frames k B d _ _ ((HY.out.alloc _).alloc _) hm (Blk.new_at _ _ _ (by simp))).mono ?_
  rintro r w2 ⟨rfl, hb2⟩
  have HB2 : Hid (Ex w w2) := zq ((((Ex.refl w).alloc _).alloc _).trans hb2)
  clear hb2
  go_wp2
  go_ret
  exact ⟨rfl, HB2.out⟩
end Go.Proofs.YtbdlpbladpppjaaGreatDoor
namespace Go.Proofs.YtbdlpbladpppjaaGreatDoor
open Go.ChangeShapes Go.WideShapes Go.ChangeAt Go.RowKit
open Rec (sz cs)

/-- The addresses and capacities of a machine's four slices. -/
structure MA where
  b : Option Addr
  bc : Nat
  f : Option Addr
  fc : Nat
  l : Option Addr
  lc : Nat
  o : Option Addr
  oc : Nat

/-- The four slices read as the machine's lists. -/
structure HasM (w : World) (m : MachD) (a : MA) : Prop where
  b : Rd w a.b m.table.buckets
  f : Rd w a.f m.table.frames
  l : Rd w a.l m.cache.lines
  o : Rd w a.o m.tags.owns
/-- The capacities hold the lists. -/
structure CapM (m : MachD) (a : MA) : Prop where
  b : m.table.buckets.length ≤ a.bc
  f : m.table.frames.length ≤ a.fc
  l : m.cache.lines.length ≤ a.lc
  o : m.tags.owns.length ≤ a.oc
/-- The lists are short enough for a law to look at them. -/
structure FewM (m : MachD) : Prop where
  b : m.table.buckets.length ≤ 1048576
  f : m.table.frames.length ≤ 1048576
  l : m.cache.lines.length ≤ 1048576
  o : m.tags.owns.length ≤ 1048576
/-- The lists' lengths are lengths of slices. -/
structure LenM (m : MachD) : Prop where
  b : m.table.buckets.length ≤ maxLen
  f : m.table.frames.length ≤ maxLen
  l : m.cache.lines.length ≤ maxLen
  o : m.tags.owns.length ≤ maxLen
section
variable {w w' : World} {m : MachD} {a : MA}
theorem HasM.ex (h : HasM w m a) (k : Ex w w') : HasM w' m a := ⟨h.b.ex k, h.f.ex k, h.l.ex k, h.o.ex k⟩
theorem HasM.alloc (h : HasM w m a) (o : Obj) : HasM (w.alloc o) m a := ⟨h.b.alloc o, h.f.alloc o, h.l.alloc o, h.o.alloc o⟩
theorem HasM.drew (h : HasM w m a) : HasM w.drew m a := ⟨h.b, h.f, h.l, h.o⟩
end

end Go.Proofs.YtbdlpbladpppjaaGreatDoor
namespace Go.Proofs.YtbdlpbladpppjaaGreatDoor
open Go.ChangeShapes Go.WideShapes Go.ChangeAt Go.RowKit
open Rec (sz cs)
set_option linter.unusedVariables false
set_option maxRecDepth 100000

theorem wpList_put_int (w : World) {ops : Array Oper} {rest : List Oper} {o : Oper} {a : Act} {Q : Exit → Act → World → Prop}
    (hg : o.guard = none) (m x v : Operand) (hop : o.op = Op.mapUpdate 88 m x v) (b n : Nat) (S : List Int) (hm : a.eval m = .map (some b)) (h : HasInts w b n S) (hn : n < maxLen) (k : Int) (hx : a.eval x = .int .i64 k) (hv : a.eval v = .bool true)
    (hk : (Lit.int .i64 k).wf = true) (hK : ∀ w', HasInts w' b (n + 1) (k :: S) → w.grownBy w' (some b) → wpList Tryz.prog ops Q rest (a.put o.dst undef) w') : wpList Tryz.prog ops Q (o :: rest) a w := by
  refine wpList_plain hg fun K' hK' => ?_
  obtain ⟨w', hrun, r1, r2⟩ := h.put hn k hk
  unfold Oper.wp
  simp [execOp, hop, hm, hx, hv, hrun, Result.andThen]
  exact hK' _ _ (hK w' r1 r2)

/-- The tag before place k, or -1. -/
def lastTag (xs : List OwnD) (k : Nat) : Int := if k = 0 then -1 else (xs.getD (k - 1) ⟨0, 0⟩).tag
theorem lastTag_succ {xs : List OwnD} {k : Nat} {x : OwnD} (h : xs[k]? = some x) : lastTag xs (k + 1) = x.tag := by
  unfold lastTag
  rw [if_neg (by omega), Nat.add_sub_cancel, own_getD h]
theorem lastTag_le {t : TagsD} {k : Nat} (h : OwnsUp t k) (hk : k ≤ t.owns.length) {j : Nat} {y : OwnD} (hj : j < k) (hy : t.owns[j]? = some y) : y.tag ≤ lastTag t.owns k := by
  obtain ⟨z, hz⟩ : ∃ z, t.owns[k - 1]? = some z := ⟨_, List.getElem?_eq_getElem (by omega)⟩
  have e : lastTag t.owns k = z.tag := by
    have := lastTag_succ hz
    rwa [show k - 1 + 1 = k from by omega] at this
  rw [e]
  by_cases hjk : j = k - 1
  · subst hjk
    rw [hz] at hy
    injection hy with hy
    rw [hy]; exact Int.le_refl _
  · have := ((h (k - 1) z (by omega) hz).2 j y (by omega) hy).1
    omega
theorem lastTag_or (xs : List OwnD) {k : Nat} (hk : k ≤ xs.length) : (k = 0 ∧ lastTag xs k = -1) ∨ ∃ y, 0 < k ∧ xs[k - 1]? = some y ∧ lastTag xs k = y.tag := by
  by_cases h : k = 0
  · exact .inl ⟨h, if_pos h⟩
  · obtain ⟨z, hz⟩ : ∃ z, xs[k - 1]? = some z := ⟨_, List.getElem?_eq_getElem (by omega)⟩
    refine .inr ⟨z, by omega, hz, ?_⟩
    have := lastTag_succ hz
    rwa [show k - 1 + 1 = k from by omega] at this

/-- The spaces of the first k owners. -/
def spacesUp (xs : List OwnD) (k : Nat) : List Int := ((xs.take k).map (·.space)).reverse
theorem spacesUp_succ {xs : List OwnD} {k : Nat} {x : OwnD} (h : xs[k]? = some x) : spacesUp xs (k + 1) = x.space :: spacesUp xs k := by
  unfold spacesUp; rw [take_succ_of h]; simp
theorem mem_spacesUp {xs : List OwnD} {k : Nat} {s : Int} : s ∈ spacesUp xs k ↔ ∃ j y, j < k ∧ xs[j]? = some y ∧ y.space = s := by
  unfold spacesUp
  simp only [List.mem_reverse, List.mem_map]
  constructor
  · rintro ⟨y, hy, rfl⟩
    obtain ⟨j, hj, e⟩ := List.getElem_of_mem hy
    rw [List.length_take] at hj
    refine ⟨j, y, by omega, ?_, rfl⟩
    have : (xs.take k)[j]? = some y := by rw [List.getElem?_eq_getElem (by rw [List.length_take]; omega), e]
    rw [List.getElem?_take] at this
    split at this
    · exact this
    · cases this
  · rintro ⟨j, y, hj, hy, rfl⟩
    refine ⟨y, ?_, rfl⟩
    apply List.mem_of_getElem? (i := j)
    rw [List.getElem?_take, if_pos hj, hy]

theorem own_step {t : TagsD} {k : Nat} {x : OwnD} (h : OwnsUp t k) (hx : t.owns[k]? = some x) (h1 : lastTag t.owns k < x.tag) (h2 : x.tag < t.next) (h3 : inB x.space 16 = true) (h4 : decide (x.space ∈ spacesUp t.owns k) = false) : OwnsUp t (k + 1) := by
  have hk := getElem?_lt hx
  have h3' := inB_true.1 h3
  have h0 : -1 ≤ lastTag t.owns k := by
    rcases lastTag_or t.owns (k := k) (by omega) with ⟨_, e⟩ | ⟨y, hp, hy, e⟩
    · omega
    · have := (h (k - 1) y (by omega) hy).1.1
      omega
  refine ownsUp_succ h hx ⟨by omega, h2, h3'.1, h3'.2⟩ fun j y hj hy => ⟨by have := lastTag_le h (by omega) hj hy; omega, fun e => ?_⟩
  have : x.space ∈ spacesUp t.owns k := mem_spacesUp.2 ⟨j, y, hj, hy, e⟩
  simp [this] at h4

theorem own_bad_last {t : TagsD} {k : Nat} {x : OwnD} (hx : t.owns[k]? = some x) (h1 : x.tag ≤ lastTag t.owns k) : tagsV t = false :=
  tagsV_bad hx fun h => by
    have hk := getElem?_lt hx
    rcases lastTag_or t.owns (k := k) (by omega) with ⟨_, e⟩ | ⟨y, hp, hy, e⟩
    · have := h.1.1; omega
    · have := (h.2 (k - 1) y (by omega) hy).1; omega
theorem own_bad_next {t : TagsD} {k : Nat} {x : OwnD} (hx : t.owns[k]? = some x) (h1 : t.next ≤ x.tag) : tagsV t = false :=
  tagsV_bad hx fun h => by have := h.1.2.1; omega
theorem own_bad_space {t : TagsD} {k : Nat} {x : OwnD} (hx : t.owns[k]? = some x) (h1 : inB x.space 16 = false) : tagsV t = false :=
  tagsV_bad hx fun h => by have := inB_false.1 h1; exact this ⟨h.1.2.2.1, h.1.2.2.2⟩
theorem own_bad_twice {t : TagsD} {k : Nat} {x : OwnD} (hx : t.owns[k]? = some x) (h1 : decide (x.space ∈ spacesUp t.owns k) = true) : tagsV t = false :=
  tagsV_bad hx fun h => by
    obtain ⟨j, y, hj, hy, e⟩ := mem_spacesUp.1 (of_decide_eq_true h1)
    exact (h.2 j y hj hy).2 e

set_option maxHeartbeats 2000000 in
theorem tagsValidI_c (t : TagsD) (A : Option Addr) (c : Nat) (w : World) (hx : Rd w A t.owns) (hn : t.owns.length ≤ 1048576) (hc : t.owns.length ≤ c) :
    Calls Tryz.prog 26 #[.agg #[.int .i64 t.count, .int .i64 t.next, .int .i64 t.round, .slice A t.owns.length c]] w fun r w' => r = .returned (.bool (tagsV t)) ∧ Ex w w' := by
  have B0 := zq (@tagsV_bad_head t)
  have B1 := zq (fun k x => @own_bad_last t k x)
  have B2 := zq (fun k x => @own_bad_next t k x)
  have B3 := zq (fun k x => @own_bad_space t k x)
  have B4 := zq (fun k x => @own_bad_twice t k x)
  have B5 := zq (@tagsV_end t)
  have B6 := zq (fun k x => @own_step t k x)
  have B7 := zq (ownsUp_zero t)
  obtain ⟨cnt, nxt, rnd, xs⟩ := t
  unfold TagsHead at B0 B5
  simp only at B0 B1 B2 B3 B4 B5 B6 hx hn hc ⊢
  generalize hOK : OwnsUp ⟨cnt, nxt, rnd, xs⟩ = OK at *
  clear hOK
  generalize tagsV ⟨cnt, nxt, rnd, xs⟩ = res at *
  obtain ⟨n, hn1⟩ : ∃ n, n = xs.length := ⟨_, rfl⟩
  have HN := zq hn1
  rw [← hn1] at B5 hn hc ⊢
  have HX := zq hx
  clear hn1 hx
  by_cases g1 : cnt < 1
  · obtain rfl : res = false := B0.out (by omega)
    go_enter Tryz.func26, Tryz.ntmps26
    go_wp2
    go_ret
    exact ⟨rfl, (Ex.refl _).alloc _⟩
  by_cases g2 : 8 < cnt
  · have g1' : 1 ≤ cnt := by omega
    obtain rfl : res = false := B0.out (by omega)
    go_enter Tryz.func26, Tryz.ntmps26
    go_wp2
    go_ret
    exact ⟨rfl, (Ex.refl _).alloc _⟩
  have g1' : 1 ≤ cnt := by omega
  have g2' : cnt ≤ 8 := by omega
  by_cases g3 : nxt < 0
  · obtain rfl : res = false := B0.out (by omega)
    go_enter Tryz.func26, Tryz.ntmps26
    go_wp2
    go_ret
    exact ⟨rfl, (Ex.refl _).alloc _⟩
  have g3' : 0 ≤ nxt := by omega
  by_cases g4 : cnt < nxt
  · obtain rfl : res = false := B0.out (by omega)
    go_enter Tryz.func26, Tryz.ntmps26
    go_wp2
    go_ret
    exact ⟨rfl, (Ex.refl _).alloc _⟩
  have g4' : nxt ≤ cnt := by omega
  by_cases g5 : rnd < 0
  · obtain rfl : res = false := B0.out (by omega)
    go_enter Tryz.func26, Tryz.ntmps26
    go_wp2
    go_ret
    exact ⟨rfl, (Ex.refl _).alloc _⟩
  have g5' : 0 ≤ rnd := by omega
  by_cases g6 : 1000000 < rnd
  · obtain rfl : res = false := B0.out (by omega)
    go_enter Tryz.func26, Tryz.ntmps26
    go_wp2
    go_ret
    exact ⟨rfl, (Ex.refl _).alloc _⟩
  have g6' : rnd ≤ 1000000 := by omega
  have HS : Hid (1 ≤ cnt ∧ cnt ≤ 8 ∧ 0 ≤ nxt ∧ nxt ≤ cnt ∧ 0 ≤ rnd ∧ rnd ≤ 1000000) := zq (by omega)
  have d1 : decide (cnt < 1) = false := by simp; omega
  have d2 : decide (8 < cnt) = false := by simp; omega
  have d3 : decide (nxt < 0) = false := by simp; omega
  have d4 : decide (cnt < nxt) = false := by simp; omega
  have d5 : decide (rnd < 0) = false := by simp; omega
  have d6 : decide (1000000 < rnd) = false := by simp; omega
  clear g1 g2 g3 g4 g5 g6 B0 g1' g2' g3' g4' g5' g6'
  have hmm := @run_makeMap Tryz.prog
  go_enter Tryz.func26, Tryz.ntmps26
  go_wp2
  clear hmm
  clear d1 d2 d3 d4 d5 d6
  obtain ⟨w0, hw0⟩ : ∃ w0 : World, w0 = (w.alloc (.cells #[.int .i64 cnt, .int .i64 nxt, .int .i64 rnd, .slice A n c] 32)).alloc (.map #[] 0) := ⟨_, rfl⟩
  obtain ⟨gb, hgb⟩ : ∃ gb : Nat, gb = w.heap.size := ⟨_, rfl⟩
  obtain ⟨gm, hgm⟩ : ∃ gm : Nat, gm = w.heap.size + 1 := ⟨_, rfl⟩
  have K0 : Hid (Blk w0 gb 32 [.int .i64 cnt, .int .i64 nxt, .int .i64 rnd, .slice A n c]) := zq (by rw [hw0, hgb]; exact (Blk.new w _ _).alloc _)
  have E0 : Hid (Ex w w0) := zq (by rw [hw0]; exact ((Ex.refl w).alloc _).alloc _)
  have M0 : Hid (HasInts w0 gm 0 []) := zq (by
    have := HasInts.made (w.alloc (.cells #[.int .i64 cnt, .int .i64 nxt, .int .i64 rnd, .slice A n c] 32))
    rw [hw0, hgm]; simpa using this)
  have hne : Hid (gb ≠ gm) := zq (by omega)
  have hge : Hid (w.heap.size ≤ gm) := zq (by omega)
  rw [← hw0, ← hgm, ← hgb]
  clear hw0 hgm hgb
  go_loopw [41, 4] (fun i l wr => ∃ k : Nat, k ≤ n ∧ i = .int .i64 k ∧ l = .int .i64 (lastTag xs k) ∧ Ex w wr ∧ Blk wr gb 32 [.int .i64 cnt, .int .i64 nxt, .int .i64 rnd, .slice A n c] ∧ HasInts wr gm k (spacesUp xs k) ∧ OK k) (fun i _ _ => n - (intOf i).toNat)
  case atStart => exact ⟨0, Nat.zero_le _, rfl, rfl, E0.out, K0.out, M0.out, B7.out⟩
  case round =>
    obtain ⟨k, hk, rfl, rfl, hbel, hkb, hmap, hok⟩ := hrel
    have HB := zq hbel
    have KB := zq hkb
    have MB := zq hmap
    have HOK := zq hok
    clear hbel hkb hmap hok
    obtain ⟨q0, q1, q2, q3⟩ := KB.out.c4
    have lb := KB.out.lt
    by_cases hlt : k < n
    · obtain ⟨b1, o1, x, rfl, hb1, hxk, h0, h1⟩ := Rd.own (HX.out.ex HB.out) (k := k) (by have := HN.out; omega)
      have HXK := zq hxk
      clear hxk
      have HLS := zq (lastTag_succ HXK.out)
      have HSS := zq (spacesUp_succ HXK.out)
      have B1k := zq (B1.out k x HXK.out)
      have B4k := zq (B4.out k x HXK.out)
      have B6k := zq (B6.out k x HOK.out HXK.out)
      generalize lastTag xs k = la at *
      generalize spacesUp xs k = sp at *
      by_cases t1 : x.tag ≤ la
      · obtain rfl : res = false := B1k.out t1
        go_wp2
        go_ret
        exact ⟨rfl, HB.out.alloc _⟩
      have t1' : ¬ x.tag ≤ la := t1
      by_cases t2 : nxt ≤ x.tag
      · obtain rfl : res = false := B2.out k x HXK.out t2
        go_wp2
        go_ret
        exact ⟨rfl, HB.out.alloc _⟩
      have t2' : ¬ nxt ≤ x.tag := t2
      cases t3 : inB x.space 16
      · obtain rfl : res = false := B3.out k x HXK.out t3
        go_wp2_with (go_at_call 16; refine (within_c _ _ _).mono ?_; rintro r w' ⟨rfl, rfl⟩)
        go_ret
        exact ⟨rfl, HB.out.alloc _⟩
      have hwf : (Lit.int .i64 x.space).wf = true := WalkArith.wf_i64 (by have := inB_true.1 t3; omega)
      have HWF := zq hwf
      clear hwf
      obtain ⟨wz, hwz⟩ : ∃ wz : World, wz = wr.alloc (.cells #[.int .i64 x.space, .int .i64 x.tag] 93) := ⟨_, rfl⟩
      have hlk := (MB.out.ex ((Ex.refl wr).alloc (.cells #[.int .i64 x.space, .int .i64 x.tag] 93))).look x.space HWF.out
      cases t4 : decide (x.space ∈ sp)
      rotate_left
      · obtain rfl : res = false := B4k.out t4
        rw [t4] at hlk
        go_wp2_with (go_at_call 16; refine (within_c _ _ _).mono ?_; rintro r w' ⟨rfl, rfl⟩)
        go_ret
        exact ⟨rfl, HB.out.alloc _⟩
      · rw [t4] at hlk
        have HOK2 := zq (B6k.out (by omega) (by omega) t3 t4)
        clear hwz
        have MZ := zq (MB.out.ex ((Ex.refl wr).alloc (.cells #[.int .i64 x.space, .int .i64 x.tag] 93)))
        go_wp2_with (first | (go_at_call 16; refine (within_c _ _ _).mono ?_; rintro r w' ⟨rfl, rfl⟩) | (at_mapUpdate; go_must (refine wpList_put_int _ rfl _ _ _ rfl gm k sp rfl MZ.out (by simp only [maxLen]; omega) x.space rfl rfl HWF.out ?_); intro w3 hs3 hg3))
        go_roundw
        case rel => exact ⟨k + 1, by omega, by go_num, by rw [HLS.out], (HB.out.alloc _).grown hg3 (fun g hg => by injection hg with hg; have := hge.out; omega), (KB.out.alloc _).grown hg3 (by intro e; injection e with e; exact hne.out e), by rw [HSS.out]; exact hs3, HOK2.out⟩
        case measure => simp [intOf]; omega
    · obtain rfl : k = n := by omega
      obtain rfl : res = true := B5.out HS.out HOK.out
      go_wp2
      go_ret
      exact ⟨rfl, HB.out⟩

theorem l1Space_q (n : Int) (w : World) : Calls Tryz.prog 77 #[.int .i64 n] w fun r w' => r = .returned (.bool (inB n 16)) ∧ w' = w :=
  (l1Space_c n w).mono fun _ _ ⟨h1, h2⟩ => ⟨h1, h2.symm⟩

theorem tagsV_bad_len {t : TagsD} (h : t.next < t.owns.length) : tagsV t = false := by
  cases h2 : tagsV t
  · rfl
  · have := (tagsV_iff t).1 h2
    have h3 := ownsUp_len this.2 this.1.2.2.1
    omega

theorem own_bad_neg {t : TagsD} {k : Nat} {x : OwnD} (hx : t.owns[k]? = some x) (h1 : x.tag < 0) : tagsV t = false :=
  tagsV_bad hx fun h => by have := h.1.1; omega
theorem own_bad_same {t : TagsD} {k j : Nat} {x y : OwnD} (hx : t.owns[k]? = some x) (hy : t.owns[j]? = some y) (hj : j < k) (h1 : y.space = x.space) : tagsV t = false :=
  tagsV_bad hx fun h => (h.2 j y hj hy).2 h1
theorem own_step' {t : TagsD} {k : Nat} {x : OwnD} (h : OwnsUp t k) (hx : t.owns[k]? = some x) (h0 : 0 ≤ x.tag) (h1 : lastTag t.owns k < x.tag) (h2 : x.tag < t.next) (h3 : inB x.space 16 = true) (h4 : ∀ j y, j < k → t.owns[j]? = some y → y.space ≠ x.space) : OwnsUp t (k + 1) := by
  have hk := getElem?_lt hx
  have h3' := inB_true.1 h3
  exact ownsUp_succ h hx ⟨h0, h2, h3'.1, h3'.2⟩ fun j y hj hy => ⟨by have := lastTag_le h (by omega) hj hy; omega, h4 j y hj hy⟩

set_option maxHeartbeats 4000000 in
theorem tagsValidS_c (t : TagsD) (A : Option Addr) (c : Nat) (w : World) (hx : Rd w A t.owns) (hn : t.owns.length ≤ 1048576) (hc : t.owns.length ≤ c) :
    Calls Tryz.prog 48 #[.agg #[.int .i64 t.count, .int .i64 t.next, .int .i64 t.round, .slice A t.owns.length c]] w fun r w' => r = .returned (.bool (tagsV t)) ∧ Ex w w' := by
  have B0 := zq (@tagsV_bad_head t)
  have B1 := zq (fun k x => @own_bad_last t k x)
  have B2 := zq (fun k x => @own_bad_next t k x)
  have B3 := zq (fun k x => @own_bad_space t k x)
  have B4 := zq (fun k j x y => @own_bad_same t k j x y)
  have B5 := zq (@tagsV_end t)
  have B6 := zq (fun k x => @own_step' t k x)
  have B7 := zq (ownsUp_zero t)
  have B8 := zq (@tagsV_bad_len t)
  have B9 := zq (fun k x => @own_bad_neg t k x)
  obtain ⟨cnt, nxt, rnd, xs⟩ := t
  unfold TagsHead at B0 B5
  simp only at B0 B1 B2 B3 B4 B5 B6 B8 B9 hx hn hc ⊢
  generalize hOK : OwnsUp ⟨cnt, nxt, rnd, xs⟩ = OK at *
  clear hOK
  generalize tagsV ⟨cnt, nxt, rnd, xs⟩ = res at *
  have HLO := zq (fun k (h : k ≤ xs.length) => lastTag_or xs (k := k) h)
  obtain ⟨n, hn1⟩ : ∃ n, n = xs.length := ⟨_, rfl⟩
  have HN := zq hn1
  rw [← hn1] at B5 B8 HLO hn hc ⊢
  have HX := zq hx
  clear hn1 hx
  by_cases g1 : cnt < 1
  · obtain rfl : res = false := B0.out (by omega)
    go_enter Tryz.func48, Tryz.ntmps48
    go_wp2
    go_ret
    exact ⟨rfl, (Ex.refl _).alloc _⟩
  by_cases g2 : 8 < cnt
  · have g1' : 1 ≤ cnt := by omega
    obtain rfl : res = false := B0.out (by omega)
    go_enter Tryz.func48, Tryz.ntmps48
    go_wp2
    go_ret
    exact ⟨rfl, (Ex.refl _).alloc _⟩
  have g1' : 1 ≤ cnt := by omega
  have g2' : cnt ≤ 8 := by omega
  by_cases g3 : nxt < 0
  · obtain rfl : res = false := B0.out (by omega)
    go_enter Tryz.func48, Tryz.ntmps48
    go_wp2
    go_ret
    exact ⟨rfl, (Ex.refl _).alloc _⟩
  have g3' : 0 ≤ nxt := by omega
  by_cases g4 : cnt < nxt
  · obtain rfl : res = false := B0.out (by omega)
    go_enter Tryz.func48, Tryz.ntmps48
    go_wp2
    go_ret
    exact ⟨rfl, (Ex.refl _).alloc _⟩
  have g4' : nxt ≤ cnt := by omega
  by_cases g5 : rnd < 0
  · obtain rfl : res = false := B0.out (by omega)
    go_enter Tryz.func48, Tryz.ntmps48
    go_wp2
    go_ret
    exact ⟨rfl, (Ex.refl _).alloc _⟩
  have g5' : 0 ≤ rnd := by omega
  by_cases g6 : 1000000 < rnd
  · obtain rfl : res = false := B0.out (by omega)
    go_enter Tryz.func48, Tryz.ntmps48
    go_wp2
    go_ret
    exact ⟨rfl, (Ex.refl _).alloc _⟩
  have g6' : rnd ≤ 1000000 := by omega
  by_cases g7 : nxt < n
  · obtain rfl : res = false := B8.out g7
    go_enter Tryz.func48, Tryz.ntmps48
    go_wp2
    go_ret
    exact ⟨rfl, (Ex.refl _).alloc _⟩
  have g7' : (n : Int) ≤ nxt := by omega
  have HS : Hid (1 ≤ cnt ∧ cnt ≤ 8 ∧ 0 ≤ nxt ∧ nxt ≤ cnt ∧ 0 ≤ rnd ∧ rnd ≤ 1000000) := zq (by omega)
  have d1 : decide (cnt < 1) = false := by simp; omega
  have d2 : decide (8 < cnt) = false := by simp; omega
  have d3 : decide (nxt < 0) = false := by simp; omega
  have d4 : decide (cnt < nxt) = false := by simp; omega
  have d5 : decide (rnd < 0) = false := by simp; omega
  have d6 : decide (1000000 < rnd) = false := by simp; omega
  have d7 : decide (nxt < (n : Int)) = false := by simp; omega
  clear g1 g2 g3 g4 g5 g6 g7 B0 g1' g2' g3' g4' g5' g6' g7' B8
  go_enter Tryz.func48, Tryz.ntmps48
  go_wp2
  clear d1 d2 d3 d4 d5 d6 d7
  obtain ⟨w0, hw0⟩ : ∃ w0 : World, w0 = w.alloc (.cells #[.int .i64 cnt, .int .i64 nxt, .int .i64 rnd, .slice A n c] 32) := ⟨_, rfl⟩
  obtain ⟨gb, hgb⟩ : ∃ gb : Nat, gb = w.heap.size := ⟨_, rfl⟩
  have K0 : Hid (Blk w0 gb 32 [.int .i64 cnt, .int .i64 nxt, .int .i64 rnd, .slice A n c]) := zq (by rw [hw0, hgb]; exact Blk.new w _ _)
  have E0 : Hid (Ex w w0) := zq (by rw [hw0]; exact (Ex.refl w).alloc _)
  rw [← hw0, ← hgb]
  clear hw0 hgb
  go_loopw [3] (fun i wr => ∃ k : Nat, k ≤ n ∧ i = .int .i64 k ∧ Ex w0 wr ∧ OK k) (fun i _ => n - (intOf i).toNat)
  case atStart => exact ⟨0, Nat.zero_le _, rfl, Ex.refl _, B7.out⟩
  case round =>
    obtain ⟨k, hk, rfl, hbel, hok⟩ := hrel
    have HB := zq hbel
    have HOK := zq hok
    have HKB := zq (K0.out.ex HB.out)
    clear hbel hok
    obtain ⟨q0, q1, q2, q3⟩ := HKB.out.c4
    have lb := HKB.out.lt
    by_cases hlt : k < n
    · obtain ⟨b1, o1, x, rfl, hb1, hxk, h0, h1⟩ := Rd.own ((HX.out.ex E0.out).ex HB.out) (k := k) (by have := HN.out; omega)
      have HXK := zq hxk
      clear hxk
      cases t3 : inB x.space 16
      · obtain rfl : res = false := B3.out k x HXK.out t3
        go_wp2
        go_quiet ((go_at_call 77; exact Calls.quiet_of_same (l1Space_q _ _)))
        go_wp2
        go_ret
        exact ⟨rfl, ((E0.out.trans HB.out).alloc _).drewN _⟩
      by_cases t1 : x.tag < 0
      · obtain rfl : res = false := B9.out k x HXK.out t1
        have t1b : decide (x.tag < 0) = true := by simp; omega
        go_wp2
        go_quiet ((go_at_call 77; exact Calls.quiet_of_same (l1Space_q _ _)))
        go_wp2
        go_ret
        exact ⟨rfl, ((E0.out.trans HB.out).alloc _).drewN _⟩
      have t1b : decide (x.tag < 0) = false := by simp; omega
      by_cases t2 : nxt ≤ x.tag
      · obtain rfl : res = false := B2.out k x HXK.out t2
        have t2b : decide (nxt ≤ x.tag) = true := by simp; omega
        go_wp2
        go_quiet ((go_at_call 77; exact Calls.quiet_of_same (l1Space_q _ _)))
        go_wp2
        go_ret
        exact ⟨rfl, ((E0.out.trans HB.out).alloc _).drewN _⟩
      have t2b : decide (nxt ≤ x.tag) = false := by simp; omega
      rcases HLO.out k (by omega) with ⟨hk0, hla⟩ | ⟨y, hk0, hy, hla⟩
      · subst hk0
        have HLT : Hid (lastTag xs 0 < x.tag) := zq (by omega)
        clear hla
        simp only [Nat.zero_mul, Nat.add_zero] at h0 h1
        go_wp2_with fail
        go_quiet ((go_at_call 77; exact Calls.quiet_of_same (l1Space_q _ _)))
        obtain ⟨w2, hw2⟩ : ∃ w2 : World, w2 = (wr.alloc (.cells #[.int .i64 x.space, .int .i64 x.tag] 93)).drewN nq := ⟨_, rfl⟩
        obtain ⟨gx, hgx⟩ : ∃ gx : Nat, gx = wr.heap.size := ⟨_, rfl⟩
        have HB2 : Hid (Ex wr w2) := zq (by rw [hw2]; exact ((Ex.refl wr).alloc _).drewN _)
        have KX : Hid (Blk w2 gx 93 [.int .i64 x.space, .int .i64 x.tag]) := zq (by rw [hw2, hgx]; exact (Blk.new wr _ _).drewN _)
        rw [← hw2, ← hgx]
        clear hw2 hgx
        have KB2 := zq (HKB.out.ex HB2.out)
        have HE2 : Hid (Ex w w2) := zq ((E0.out.trans HB.out).trans HB2.out)
        have HW2 : Hid (Ex w0 w2) := zq (HB.out.trans HB2.out)
        have HX2 : Hid (Rd w2 (some ⟨b1, o1, none⟩) xs) := zq (HX.out.ex HE2.out)
        have HC : Hid (∀ (j : Nat) (y : OwnD), j < 0 → xs[j]? = some y → y.space ≠ x.space) := zq (fun j y h => by omega)
        clear HB HB2 HKB
        go_wp2
        go_loopw [5] (fun j wi => ∃ m : Nat, m ≤ 0 ∧ j = .int .i64 m ∧ Ex w2 wi ∧ ∀ (j : Nat) (y : OwnD), j < m → xs[j]? = some y → y.space ≠ x.space) (fun j _ => 0 - (intOf j).toNat)
        case atStart => exact ⟨0, Nat.zero_le _, rfl, Ex.refl _, HC.out⟩
        case round =>
          obtain ⟨m, hm, rfl, hbi, hcl⟩ := hrel
          have HBI := zq hbi
          have HCL := zq hcl
          clear hbi hcl
          obtain ⟨p0, p1⟩ := (KX.out.ex HBI.out).c2
          have lx := (KX.out.ex HBI.out).lt
          obtain ⟨q0, q1, q2, q3⟩ := (KB2.out.ex HBI.out).c4
          have lb := (KB2.out.ex HBI.out).lt
          by_cases hlm : m < 0
          · omega
          · have hmk : m = 0 := by omega
            have HOK2 : Hid (OK (0 + 1)) := zq (B6.out 0 x HOK.out HXK.out (by omega) HLT.out (by omega) t3 (fun j y hj hy => HCL.out j y (by omega) hy))
            have HMK := zq hmk
            clear hmk
            go_wp2
            go_roundw
            case rel => exact ⟨0 + 1, by omega, by go_num, HW2.out.trans HBI.out, HOK2.out⟩
            case measure => simp [intOf]; omega
      · obtain ⟨k', rfl⟩ : ∃ k', k = k' + 1 := ⟨k - 1, by omega⟩
        have hkk : k' + 1 - 1 = k' := by omega
        rw [hkk] at hy
        clear hkk
        obtain ⟨y', hb2, hyk', y0, y1⟩ := Rd.own_known ((HX.out.ex E0.out).ex HB.out) (k := k') (by have := HN.out; omega)
        have e : y' = y := by rw [hy] at hyk'; injection hyk' with e; exact e.symm
        subst e
        have HYP := zq hy
        have HLA := zq hla
        clear hy hyk' hla y0
        have hkp : decide ((0 : Int) < ((k' + 1 : Nat) : Int)) = true := by simp
        have hsub : IntKind.i64.wrap (((k' + 1 : Nat) : Int) - 1) = (k' : Int) := by rw [show ((k' + 1 : Nat) : Int) - 1 = (k' : Int) from by omega]; exact IntWalk.i64_in _ (by omega)
        have hk'n : (k' : Int) < (n : Int) := by omega
        have hk'0 : (0 : Int) < (k' : Int) + 1 := by omega
        by_cases t4 : x.tag ≤ y'.tag
        · obtain rfl : res = false := B1.out (k' + 1) x HXK.out (by rw [HLA.out]; exact t4)
          have t4b : decide (x.tag ≤ y'.tag) = true := by simp; omega
          go_wp2_with fail
          go_quiet ((go_at_call 77; exact Calls.quiet_of_same (l1Space_q _ _)))
          go_wp2
          go_ret
          exact ⟨rfl, ((E0.out.trans HB.out).alloc _).drewN _⟩
        · have t4b : decide (x.tag ≤ y'.tag) = false := by simp; omega
          have HLT : Hid (lastTag xs (k' + 1) < x.tag) := zq (by rw [HLA.out]; omega)
          go_wp2_with fail
          go_quiet ((go_at_call 77; exact Calls.quiet_of_same (l1Space_q _ _)))
          clear hsub t4b hkp
          obtain ⟨w2, hw2⟩ : ∃ w2 : World, w2 = (wr.alloc (.cells #[.int .i64 x.space, .int .i64 x.tag] 93)).drewN nq := ⟨_, rfl⟩
          obtain ⟨gx, hgx⟩ : ∃ gx : Nat, gx = wr.heap.size := ⟨_, rfl⟩
          have HB2 : Hid (Ex wr w2) := zq (by rw [hw2]; exact ((Ex.refl wr).alloc _).drewN _)
          have KX : Hid (Blk w2 gx 93 [.int .i64 x.space, .int .i64 x.tag]) := zq (by rw [hw2, hgx]; exact (Blk.new wr _ _).drewN _)
          rw [← hw2, ← hgx]
          clear hw2 hgx
          have KB2 := zq (HKB.out.ex HB2.out)
          have HE2 : Hid (Ex w w2) := zq ((E0.out.trans HB.out).trans HB2.out)
          have HW2 : Hid (Ex w0 w2) := zq (HB.out.trans HB2.out)
          have HX2 : Hid (Rd w2 (some ⟨b1, o1, none⟩) xs) := zq (HX.out.ex HE2.out)
          have HC : Hid (∀ (j : Nat) (y : OwnD), j < 0 → xs[j]? = some y → y.space ≠ x.space) := zq (fun j y h => by omega)
          clear HB HB2 HKB
          go_wp2
          go_loopw [5] (fun j wi => ∃ m : Nat, m ≤ (k' + 1) ∧ j = .int .i64 m ∧ Ex w2 wi ∧ ∀ (j : Nat) (y : OwnD), j < m → xs[j]? = some y → y.space ≠ x.space) (fun j _ => (k' + 1) - (intOf j).toNat)
          case atStart => exact ⟨0, Nat.zero_le _, rfl, Ex.refl _, HC.out⟩
          case round =>
            obtain ⟨m, hm, rfl, hbi, hcl⟩ := hrel
            have HBI := zq hbi
            have HCL := zq hcl
            clear hbi hcl
            obtain ⟨p0, p1⟩ := (KX.out.ex HBI.out).c2
            have lx := (KX.out.ex HBI.out).lt
            obtain ⟨q0, q1, q2, q3⟩ := (KB2.out.ex HBI.out).c4
            have lb := (KB2.out.ex HBI.out).lt
            by_cases hlm : m < (k' + 1)
            · obtain ⟨y, hb1', hyk, y0, y1⟩ := Rd.own_known (HX2.out.ex HBI.out) (k := m) (by have := HN.out; omega)
              have HYK := zq hyk
              clear hyk
              have hmn : (m : Int) < (n : Int) := by omega
              cases hys : (y.space == x.space)
              · have HYS := zq hys
                go_wp2_with fail
                go_quiet (fail)
                go_wp2
                go_roundw
                case rel => exact ⟨m + 1, by omega, by go_num, HBI.out.drewN _, fun j z hj hz => by
                  by_cases e : j = m
                  · subst e
                    have := HYK.out
                    rw [this] at hz
                    injection hz with hz
                    have h2 := HYS.out
                    rw [← hz]; simpa using h2
                  · exact HCL.out j z (by omega) hz⟩
                case measure => simp [intOf]; omega
              · obtain rfl : res = false := B4.out (k' + 1) m x y HXK.out HYK.out hlm (by simpa using hys)
                go_wp2_with fail
                go_quiet (fail)
                go_wp2
                go_ret
                exact ⟨rfl, (HE2.out.trans HBI.out).drewN _⟩
            · have hmk : m = (k' + 1) := by omega
              have HOK2 : Hid (OK ((k' + 1) + 1)) := zq (B6.out (k' + 1) x HOK.out HXK.out (by omega) HLT.out (by omega) t3 (fun j y hj hy => HCL.out j y (by omega) hy))
              have HMK := zq hmk
              clear hmk
              go_wp2
              go_roundw
              case rel => exact ⟨(k' + 1) + 1, by omega, by go_num, HW2.out.trans HBI.out, HOK2.out⟩
              case measure => simp [intOf]; omega
    · obtain rfl : k = n := by omega
      obtain rfl : res = true := B5.out HS.out HOK.out
      go_wp2
      go_ret
      exact ⟨rfl, E0.out.trans HB.out⟩

set_option maxHeartbeats 1000000 in
theorem own1_c (x : OwnD) (s : Int) (w : World) (gs : Nat) (hs : Blk w gs 3 [.int .i64 s]) :
    Calls Tryz.prog 58 #[.agg #[.int .i64 x.space, .int .i64 x.tag], .pointer (some ⟨gs, 0, none⟩)] w fun r w' => r = .returned (.bool (x.space == s)) ∧ Ex w w' := by
  obtain s0 := hs.c1
  have ls := hs.lt
  clear hs
  go_enter Tryz.func58, Tryz.ntmps58
  go_wp2
  go_ret
  exact ⟨rfl, (Ex.refl _).alloc _⟩

set_option maxHeartbeats 1000000 in
theorem indexOwn_c (xs : List OwnD) (s : Int) (A : Option Addr) (c : Nat) (w : World) (gs : Nat) (hx : Rd w A xs) (hn : xs.length ≤ 1048576) (hs : Blk w gs 3 [.int .i64 s]) :
    Calls Tryz.prog 57 #[.slice A xs.length c, .func (.func 58) #[] #[.pointer (some ⟨gs, 0, none⟩)]] w fun r w' => r = .returned (.int .i64 (ownPlace xs s)) ∧ Ex w w' := by
  have B1 := zq (fun k x => @firstOf_at _ (fun x : OwnD => x.space == s) xs k x)
  have B2 := zq (@firstOf_none _ (fun x : OwnD => x.space == s) xs)
  unfold ownPlace
  generalize firstOf (fun x : OwnD => x.space == s) xs = res at *
  obtain ⟨n, hn1⟩ : ∃ n, n = xs.length := ⟨_, rfl⟩
  have HN := zq hn1
  rw [← hn1] at B2 hn ⊢
  have HX := zq hx
  have HS := zq hs
  clear hn1 hx hs
  go_enter Tryz.func57, Tryz.ntmps57
  go_wp2
  go_loopw [8] (fun i wr => ∃ k : Nat, k ≤ n ∧ i = .int .i64 k ∧ Ex w wr ∧ ∀ (j : Nat) (y : OwnD), j < k → xs[j]? = some y → (y.space == s) = false) (fun i _ => n - (intOf i).toNat)
  case atStart => exact ⟨0, Nat.zero_le _, rfl, Ex.refl _, fun j y h => by omega⟩
  case round =>
    obtain ⟨k, hk, rfl, hbel, hcl⟩ := hrel
    have HB := zq hbel
    have HCL := zq hcl
    clear hbel hcl
    by_cases hlt : k < n
    · obtain ⟨b1, o1, x, rfl, hb1, hxk, h0, h1⟩ := Rd.own (HX.out.ex HB.out) (k := k) (by have := HN.out; omega)
      have HXK := zq hxk
      clear hxk
      go_wp2_with fail
      refine (own1_c x s _ _ (HS.out.ex HB.out)).mono ?_
      rintro r w2 ⟨rfl, hb2⟩
      have HB2 := zq hb2
      clear hb2 h0 h1
      cases hv : (x.space == s)
      · have HV := zq hv
        clear hv
        go_wp2
        go_roundw
        case rel => exact ⟨k + 1, by omega, by go_num, HB.out.trans HB2.out, fun j z hj hz => by
          by_cases e : j = k
          · subst e
            have := HXK.out
            rw [this] at hz
            injection hz with hz
            rw [← hz]; exact HV.out
          · exact HCL.out j z (by omega) hz⟩
        case measure => simp [intOf]; omega
      · obtain rfl : res = (k : Int) := B1.out k x HXK.out hv HCL.out
        clear hv
        go_wp2
        go_ret
        exact ⟨rfl, HB.out.trans HB2.out⟩
    · obtain rfl : k = n := by omega
      obtain rfl : res = -1 := B2.out HCL.out
      go_wp2
      go_ret
      exact ⟨rfl, HB.out⟩

set_option maxHeartbeats 1000000 in
theorem ownI_c (t : TagsD) (s : Int) (A : Option Addr) (c : Nat) (w : World) (hx : Rd w A t.owns) (hn : t.owns.length ≤ 1048576) :
    Calls Tryz.prog 27 #[.agg #[.int .i64 t.count, .int .i64 t.next, .int .i64 t.round, .slice A t.owns.length c], .int .i64 s] w fun r w' => r = .returned (.int .i64 (ownPlace t.owns s)) ∧ Ex w w' := by
  have HX := zq hx
  clear hx
  have hmf : ∀ (fn : Fn) (first cap : Array Value) (w : World), (Instr.makeFunc fn first cap).run Tryz.prog w = .ok (.func fn first cap) w := fun _ _ _ _ => rfl
  go_enter Tryz.func27, Tryz.ntmps27
  go_wp2_with fail
  refine (indexOwn_c t.owns s A c _ _ ((HX.out.alloc _).alloc _) hn (Blk.new_at _ _ _ (by simp))).mono ?_
  rintro r w2 ⟨rfl, hb2⟩
  have HB2 : Hid (Ex w w2) := zq ((((Ex.refl w).alloc _).alloc _).trans hb2)
  clear hb2
  go_wp2
  go_ret
  exact ⟨rfl, HB2.out⟩

set_option maxHeartbeats 1000000 in
theorem l5Find_c (t : TagsD) (s : Int) (A : Option Addr) (c : Nat) (w : World) (hx : Rd w A t.owns) (hn : t.owns.length ≤ 1048576) :
    Calls Tryz.prog 49 #[.agg #[.int .i64 t.count, .int .i64 t.next, .int .i64 t.round, .slice A t.owns.length c], .int .i64 s] w fun r w' => r = .returned (.int .i64 (ownPlace t.owns s)) ∧ Ex w w' := by
  obtain ⟨cnt, nxt, rnd, xs⟩ := t
  simp only at hx hn ⊢
  have B1 := zq (fun k x => @firstOf_at _ (fun x : OwnD => x.space == s) xs k x)
  have B2 := zq (@firstOf_none _ (fun x : OwnD => x.space == s) xs)
  unfold ownPlace
  generalize firstOf (fun x : OwnD => x.space == s) xs = res at *
  obtain ⟨n, hn1⟩ : ∃ n, n = xs.length := ⟨_, rfl⟩
  have HN := zq hn1
  rw [← hn1] at B2 hn ⊢
  have HX := zq hx
  clear hn1 hx
  go_enter Tryz.func49, Tryz.ntmps49
  go_wp2
  obtain ⟨w0, hw0⟩ : ∃ w0 : World, w0 = w.alloc (.cells #[.int .i64 cnt, .int .i64 nxt, .int .i64 rnd, .slice A n c] 32) := ⟨_, rfl⟩
  have E0 : Hid (Ex w w0) := zq (by rw [hw0]; exact (Ex.refl _).alloc _)
  have K0 : Hid (Blk w0 w.heap.size 32 [.int .i64 cnt, .int .i64 nxt, .int .i64 rnd, .slice A n c]) := zq (by rw [hw0]; exact Blk.new _ _ _)
  rw [← hw0]
  clear hw0
  go_loopw [5] (fun i wr => ∃ k : Nat, k ≤ n ∧ i = .int .i64 k ∧ Ex w0 wr ∧ ∀ (j : Nat) (y : OwnD), j < k → xs[j]? = some y → (y.space == s) = false) (fun i _ => n - (intOf i).toNat)
  case atStart => exact ⟨0, Nat.zero_le _, rfl, Ex.refl _, fun j y h => by omega⟩
  case round =>
    obtain ⟨k, hk, rfl, hbel, hcl⟩ := hrel
    have HB := zq hbel
    have HCL := zq hcl
    clear hbel hcl
    obtain ⟨q0, q1, q2, q3⟩ := (K0.out.ex HB.out).c4
    have lb := (K0.out.ex HB.out).lt
    by_cases hlt : k < n
    · obtain ⟨b1, o1, x, rfl, hb1, hxk, h0, h1⟩ := Rd.own ((HX.out.ex E0.out).ex HB.out) (k := k) (by have := HN.out; omega)
      have HXK := zq hxk
      clear hxk
      cases hv : (x.space == s)
      · have HV := zq hv
        go_wp2
        go_roundw
        case rel => exact ⟨k + 1, by omega, by go_num, (ze HB.out), fun j z hj hz => by
          by_cases e : j = k
          · subst e
            have := HXK.out
            rw [this] at hz
            injection hz with hz
            rw [← hz]; exact HV.out
          · exact HCL.out j z (by omega) hz⟩
        case measure => simp [intOf]; omega
      · obtain rfl : res = (k : Int) := B1.out k x HXK.out hv HCL.out
        go_wp2
        go_ret
        exact ⟨rfl, (ze (E0.out.trans HB.out))⟩
    · obtain rfl : k = n := by omega
      obtain rfl : res = -1 := B2.out HCL.out
      go_wp2
      go_ret
      exact ⟨rfl, E0.out.trans HB.out⟩

set_option maxHeartbeats 2000000 in
theorem spaceOfI_c (t : TagsD) (g : Int) (A : Option Addr) (c : Nat) (w : World) (hx : Rd w A t.owns) (hn : t.owns.length ≤ 1048576) (hcap : t.owns.length ≤ c) :
    Calls Tryz.prog 28 #[.agg #[.int .i64 t.count, .int .i64 t.next, .int .i64 t.round, .slice A t.owns.length c], .int .i64 g] w fun r w' => r = .returned (.tuple #[.int .i64 (spaceOf t g).1, .bool (spaceOf t g).2]) ∧ Ex w w' := by
  have HX := zq hx
  clear hx
  cases hv : tagsV t
  · have e : spaceOf t g = (0, false) := if_neg (fun h => by rw [hv] at h; cases h.1)
    rw [e]
    clear e
    go_enter Tryz.func28, Tryz.ntmps28
    go_wp2_with fail
    refine name_calls ?_; intro v1 hv1
    have X1 : Hid (Chg (0) (0) w v1) := zx hv1
    have t1 := X1.out.size
    have Ev1 := zq ((Ex.refl w).chg X1.out (by omega))
    have KX : Hid (Blk v1 (w.heap.size) 32 [.int .i64 t.count, .int .i64 t.next, .int .i64 t.round, .slice A t.owns.length c]) := zk hv1
    have lX : w.heap.size < v1.heap.size := KX.out.lt
    have DX := zq (HX.out.ex Ev1.out)
    clear hv1
    refine (tagsValidI_c t A c _ DX.out hn hcap).mono ?_; rintro r w1 ⟨rfl, hb1⟩
    have Y1 := zq (Chg.of_ex hb1)
    have s1 := Y1.out.size
    have Ew1 := zq (Ev1.out.chg Y1.out (by omega))
    clear hb1
    replace KX := zq (KX.out.chg Y1.out (by omega))
    replace DX := zq (HX.out.ex Ew1.out)
    obtain ⟨qX0, qX1, qX2, qX3⟩ := KX.out.c4
    have jX := KX.out.lt
    rw [hv]
    go_wp2
    go_ret2
    exact ⟨rfl, Ew1.out⟩
  have B1 : Hid (∀ (k : Nat) (x : OwnD), t.owns[k]? = some x → x.tag = g → spaceOf t g = (x.space, true)) := zq (fun k x hx e => by rw [← e]; exact spaceOf_of hv hx)
  have B2 : Hid ((∀ (j : Nat) (y : OwnD), j < t.owns.length → t.owns[j]? = some y → (y.tag == g) = false) → spaceOf t g = (0, false)) := zq (fun h => spaceOf_none fun j y hy => by have := h j y (getElem?_lt hy) hy; simpa using this)
  generalize spaceOf t g = res at *
  go_enter Tryz.func28, Tryz.ntmps28
  go_wp2_with fail
  refine name_calls ?_; intro v1 hv1
  have X1 : Hid (Chg (0) (0) w v1) := zx hv1
  have t1 := X1.out.size
  have Ev1 := zq ((Ex.refl w).chg X1.out (by omega))
  have KX : Hid (Blk v1 (w.heap.size) 32 [.int .i64 t.count, .int .i64 t.next, .int .i64 t.round, .slice A t.owns.length c]) := zk hv1
  have lX : w.heap.size < v1.heap.size := KX.out.lt
  have DX := zq (HX.out.ex Ev1.out)
  clear hv1
  refine (tagsValidI_c t A c _ DX.out hn hcap).mono ?_; rintro r w1 ⟨rfl, hb1⟩
  have Y1 := zq (Chg.of_ex hb1)
  have s1 := Y1.out.size
  have Ew1 := zq (Ev1.out.chg Y1.out (by omega))
  clear hb1
  replace KX := zq (KX.out.chg Y1.out (by omega))
  replace DX := zq (HX.out.ex Ew1.out)
  obtain ⟨qX0, qX1, qX2, qX3⟩ := KX.out.c4
  have jX := KX.out.lt
  rw [hv]
  obtain ⟨n, hn1⟩ : ∃ n, n = t.owns.length := ⟨_, rfl⟩
  have HN := zq hn1
  rw [← hn1] at B2 hn KX qX3 ⊢
  clear hn1
  go_wp2
  go_loopw [14] (fun i wr => ∃ k : Nat, k ≤ n ∧ i = .int .i64 k ∧ Ex w1 wr ∧ ∀ (j : Nat) (y : OwnD), j < k → t.owns[j]? = some y → (y.tag == g) = false) (fun i _ => n - (intOf i).toNat)
  case atStart => exact ⟨0, Nat.zero_le _, rfl, Ex.refl _, fun j y h => by omega⟩
  case round =>
    obtain ⟨k, hk, rfl, hbel, hcl⟩ := hrel
    have HB := zq hbel
    have HCL := zq hcl
    clear hbel hcl qX0 qX1 qX2 qX3 jX
    by_cases hlt : k < n
    · obtain ⟨b1, o1, x, rfl, hb1, hxk, h0, h1⟩ := Rd.own (DX.out.ex HB.out) (k := k) (by have := HN.out; omega)
      have HXK := zq hxk
      clear hxk
      cases hv : (x.tag == g)
      · have HV := zq hv
        go_wp2
        go_roundw
        case rel => exact ⟨k + 1, by omega, by go_num, (ze HB.out), fun j z hj hz => by
          by_cases e : j = k
          · subst e
            have := HXK.out
            rw [this] at hz
            injection hz with hz
            rw [← hz]; exact HV.out
          · exact HCL.out j z (by omega) hz⟩
        case measure => simp [intOf]; omega
      · obtain rfl : res = (x.space, true) := B1.out k x HXK.out (by simpa using hv)
        go_wp2
        go_ret2
        exact ⟨rfl, (ze (Ew1.out.trans HB.out))⟩
    · obtain rfl : k = n := by omega
      obtain rfl : res = (0, false) := B2.out HCL.out
      go_wp2
      go_ret2
      exact ⟨rfl, (ze (Ew1.out.trans HB.out))⟩

set_option maxHeartbeats 2000000 in
theorem spaceOfS_c (t : TagsD) (g : Int) (A : Option Addr) (c : Nat) (w : World) (hx : Rd w A t.owns) (hn : t.owns.length ≤ 1048576) (hcap : t.owns.length ≤ c) :
    Calls Tryz.prog 78 #[.agg #[.int .i64 t.count, .int .i64 t.next, .int .i64 t.round, .slice A t.owns.length c], .int .i64 g] w fun r w' => r = .returned (.tuple #[.int .i64 (spaceOf t g).1, .bool (spaceOf t g).2]) ∧ Ex w w' := by
  have HX := zq hx
  have CV := zq (fun w' (h : Ex w w') => tagsValidS_c t A c w' (hx.ex h) hn hcap)
  have B1 : Hid (∀ (k : Nat) (x : OwnD), t.owns[k]? = some x → tagsV t = true → x.tag = g → spaceOf t g = (x.space, true)) := zq (fun k x hx hv e => by rw [← e]; exact spaceOf_of hv hx)
  have B2 : Hid ((∀ (j : Nat) (y : OwnD), j < t.owns.length → t.owns[j]? = some y → (y.tag == g) = false) → spaceOf t g = (0, false)) := zq (fun h => spaceOf_none fun j y hy => by have := h j y (getElem?_lt hy) hy; simpa using this)
  have B3 : Hid (tagsV t = false → spaceOf t g = (0, false)) := zq (fun hv => if_neg (fun h => by rw [hv] at h; cases h.1))
  clear hx
  obtain ⟨cnt, nxt, rnd, xs⟩ := t
  simp only at HX CV B1 B2 hn hcap ⊢
  generalize tagsV ⟨cnt, nxt, rnd, xs⟩ = v at CV B1 B3
  generalize spaceOf ⟨cnt, nxt, rnd, xs⟩ g = res at *
  obtain ⟨n, hn1⟩ : ∃ n, n = xs.length := ⟨_, rfl⟩
  have HN := zq hn1
  rw [← hn1] at B2 hn CV hcap ⊢
  clear hn1
  go_enter Tryz.func78, Tryz.ntmps78
  go_wp2
  obtain ⟨w0, hw0⟩ : ∃ w0 : World, w0 = w.alloc (.cells #[.int .i64 cnt, .int .i64 nxt, .int .i64 rnd, .slice A n c] 32) := ⟨_, rfl⟩
  have E0 : Hid (Ex w w0) := zq (by rw [hw0]; exact (Ex.refl _).alloc _)
  have K0 : Hid (Blk w0 w.heap.size 32 [.int .i64 cnt, .int .i64 nxt, .int .i64 rnd, .slice A n c]) := zq (by rw [hw0]; exact Blk.new _ _ _)
  rw [← hw0]
  clear hw0
  go_loopw [6] (fun i wr => ∃ k : Nat, k ≤ n ∧ i = .int .i64 k ∧ Ex w0 wr ∧ ∀ (j : Nat) (y : OwnD), j < k → xs[j]? = some y → (y.tag == g) = false) (fun i _ => n - (intOf i).toNat)
  case atStart => exact ⟨0, Nat.zero_le _, rfl, Ex.refl _, fun j y h => by omega⟩
  case round =>
    obtain ⟨k, hk, rfl, hbel, hcl⟩ := hrel
    have HB := zq hbel
    have HCL := zq hcl
    clear hbel hcl
    obtain ⟨q0, q1, q2, q3⟩ := (K0.out.ex HB.out).c4
    have lb := (K0.out.ex HB.out).lt
    by_cases hlt : k < n
    · have hkn : (k : Int) < (n : Int) := by omega
      go_wp2_with fail
      refine (CV.out _ (E0.out.trans HB.out)).mono ?_
      rintro r w2 ⟨rfl, hb2⟩
      have HB2 := zq (HB.out.trans hb2)
      clear hb2 q0 q1 q2 q3 lb
      cases v
      · obtain rfl : res = (0, false) := B3.out rfl
        go_wp2
        go_ret2
        exact ⟨rfl, E0.out.trans HB2.out⟩
      obtain ⟨b1, o1, x, rfl, hb1, hxk, h0, h1⟩ := Rd.own ((HX.out.ex E0.out).ex HB2.out) (k := k) (by have := HN.out; omega)
      have HXK := zq hxk
      clear hxk
      obtain ⟨q0, q1, q2, q3⟩ := (K0.out.ex HB2.out).c4
      have lb := (K0.out.ex HB2.out).lt
      cases hv : (x.tag == g)
      · have HV := zq hv
        go_wp2
        go_roundw
        case rel => exact ⟨k + 1, by omega, by go_num, (ze HB2.out), fun j z hj hz => by
          by_cases e : j = k
          · subst e
            have := HXK.out
            rw [this] at hz
            injection hz with hz
            rw [← hz]; exact HV.out
          · exact HCL.out j z (by omega) hz⟩
        case measure => simp [intOf]; omega
      · obtain rfl : res = (x.space, true) := B1.out k x HXK.out rfl (by simpa using hv)
        go_wp2
        go_ret2
        exact ⟨rfl, (ze (E0.out.trans HB2.out))⟩
    · obtain rfl : k = n := by omega
      obtain rfl : res = (0, false) := B2.out HCL.out
      go_wp2
      go_ret2
      exact ⟨rfl, (ze (E0.out.trans HB.out))⟩

set_option maxHeartbeats 8000000 in
theorem l6Line_c (m : MachD) (a : MA) (x : LineD) (w : World) (hx : HasM w m a) (hf : FewM m) (hc : CapM m a) (hok : TableOk m.table) (ht : tagsV m.tags = true) (hp : 0 ≤ x.page ∧ x.page < 256) :
    Calls Tryz.prog 50 #[.agg #[.slice a.b m.table.buckets.length a.bc, .slice a.f m.table.frames.length a.fc, .slice a.l m.cache.lines.length a.lc, .int .i64 m.cache.hand, .int .i64 m.tags.count, .int .i64 m.tags.next, .int .i64 m.tags.round, .slice a.o m.tags.owns.length a.oc, .int .i64 m.space], .agg #[.bool x.valid, .int .i64 x.tag, .int .i64 x.page, .int .i64 x.frame, .int .i64 x.rights, .bool x.wired]] w fun r w' => r = .returned (.bool (lineFitsB m x)) ∧ Ex w w' := by
  obtain ⟨A, c, B, d, L, e, O, g⟩ := a
  obtain ⟨xv, xt, xp, xf, xr, xw⟩ := x
  dsimp only at hp ⊢
  have HB : Hid (Rd w A m.table.buckets) := zq hx.b
  have HF : Hid (Rd w B m.table.frames) := zq hx.f
  have HO : Hid (Rd w O m.tags.owns) := zq hx.o
  have CT := zq (fun w' (h : Rd w' O m.tags.owns) => spaceOfS_c m.tags xt O g w' h hf.o hc.o)
  have CF := zq (fun s w' (h1 : Rd w' A m.table.buckets) (h2 : Rd w' B m.table.frames) (hs : 0 ≤ s ∧ s < 16) => l3Find_c m.table A c B d (keyFor s xp) w' h1 h2 hok (keyFor_ok hs hp))
  have CK := zq (fun s w' => keyForS_c s xp w')
  have hsr := spaceOf_range (t := m.tags) xt ht
  have CEK : Hid (∀ (args : Array Value) (w : World), (callFunc 80 args).run Tryz.prog w = .ok (.enter 80 args) w) := zq (enters Tryz.func80 (by kernel_rfl) (by kernel_rfl))
  have CEF : Hid (∀ (args : Array Value) (w : World), (callFunc 79 args).run Tryz.prog w = .ok (.enter 79 args) w) := zq (enters Tryz.func79 (by kernel_rfl) (by kernel_rfl))
  clear hx hf hc ht hp hok
  generalize m.cache.lines.length = nl
  generalize m.tags.owns.length = no at CT ⊢
  by_cases htg : xt = -1
  · by_cases hpg : 128 ≤ xp
    · have hq : lineAt m ⟨xv, xt, xp, xf, xr, xw⟩ = findF m.table (keyFor 0 xp) := by unfold lineAt lineSpace; rw [if_pos htg]
      have CF0 := zq (fun w' h1 h2 => CF.out 0 w' h1 h2 (by omega))
      have CK0 := zq (fun w' => CK.out 0 w')
      have HT1 : Hid (xt = -1 ↔ 128 ≤ xp) := zq (by simp [htg, hpg])
      have HT2 : Hid (xt ≠ -1 → (spaceOf m.tags xt).2 = true) := zq (fun h => absurd htg h)
      clear hsr CT
      subst htg
      generalize keyFor 0 xp = kk at hq CF0 CK0
      rcases findF_range (t := m.table) kk with hm | ⟨i, f, hm, hfi⟩
      · rw [lineFitsB_no (fun h => by obtain ⟨i, f, h1, _⟩ := h.2.2.1; rw [hq, hm] at h1; omega)]
        rw [hm] at CF0
        clear hq hm CF CK
        generalize m.table.frames.length = n at CF0 ⊢
        generalize m.table.buckets.length = nb at CF0 ⊢
        go_enter Tryz.func50, Tryz.ntmps50
        go_wp2_with fail
        obtain ⟨w0, hw0⟩ : ∃ w0 : World, w0 = (w.alloc (.cells #[.slice A nb c, .slice B n d, .slice L nl e, .int .i64 m.cache.hand, .int .i64 m.tags.count, .int .i64 m.tags.next, .int .i64 m.tags.round, .slice O no g, .int .i64 m.space] 34)).alloc (.cells #[.bool xv, .int .i64 (-1), .int .i64 xp, .int .i64 xf, .int .i64 xr, .bool xw] 64) := ⟨_, rfl⟩
        obtain ⟨gm, hgm⟩ : ∃ gm : Nat, gm = w.heap.size := ⟨_, rfl⟩
        obtain ⟨gl, hgl⟩ : ∃ gl : Nat, gl = w.heap.size + 1 := ⟨_, rfl⟩
        have K0 : Hid (Blk w0 gm 34 [.slice A nb c, .slice B n d, .slice L nl e, .int .i64 m.cache.hand, .int .i64 m.tags.count, .int .i64 m.tags.next, .int .i64 m.tags.round, .slice O no g, .int .i64 m.space]) := zq (by rw [hw0, hgm]; exact (Blk.new w _ _).alloc _)
        have K1 : Hid (Blk w0 gl 64 [.bool xv, .int .i64 (-1), .int .i64 xp, .int .i64 xf, .int .i64 xr, .bool xw]) := zq (by rw [hw0, hgl]; exact Blk.new_at _ _ _ (by simp))
        have E0 : Hid (Ex w w0) := zq (by rw [hw0]; exact ((Ex.refl w).alloc _).alloc _)
        rw [← hw0]
        rw [← hgl]
        rw [← hgm]
        clear hw0 hgm hgl
        have FK9 : Hid (∀ w', Ex w0 w' → (w'.cell? ⟨gm, 0, none⟩ = some (.slice A nb c) ∧ w'.cell? ⟨gm, 1, none⟩ = some (.slice B n d) ∧ w'.cell? ⟨gl, 2, none⟩ = some (.int .i64 xp))) := zq (fun w' h => ⟨(K0.out.ex h).c9.1, (K0.out.ex h).c9.2.1, (K1.out.ex h).c6.2.2.1⟩)
        refine wp_region_held_drew (S := (fun w' => (w'.cell? ⟨gm, 0, none⟩ = some (.slice A nb c) ∧ w'.cell? ⟨gm, 1, none⟩ = some (.slice B n d) ∧ w'.cell? ⟨gl, 2, none⟩ = some (.int .i64 xp)))) (by kernel_rfl) ?r0_hS0 (fun hHeld => ?_)
        case r0_hS0 => exact FK9.out _ (Ex.refl _).drew
        refine tk 0 ?_; refine tk 1 ?_; refine tk 2 ?_; refine tk 3 ?_; refine tk 4 ?_
        refine wpAnyH_ready (rs := [5]) (by kernel_rfl) (by simp) ?_
        refine AllReadyH.cons (o := ?r0_o5) ?r0_ho5 (fun K hK => ?_) AllReadyH.nil
        case r0_ho5 => (conv => lhs; whnf; arg 1; whnf)
        refine step_call_gu rfl CEK.out _ _ rfl #[.int .i64 0, .int .i64 xp] rfl (CK0.out _) ?_; rintro r wa ⟨rfl, hwa⟩; refine ⟨_, rfl, ?_⟩; have hxa := Ex.trans (Ex.refl _).drew hwa
        refine hK.out _ _ ?r0_hS5 (fun hHeld5 => ?_)
        case r0_hS5 => exact FK9.out _ hxa
        clear hK K hHeld
        try simp only [Act.put, List.setIfInBounds_toArray, List.set_cons_zero, List.set_cons_succ]
        refine wpAnyH_ready (rs := [6]) (by kernel_rfl) (by simp) ?_
        refine AllReadyH.cons (o := ?r0_o6) ?r0_ho6 (fun K hK => ?_) AllReadyH.nil
        case r0_ho6 => (conv => lhs; whnf; arg 1; whnf)
        refine step_call_gu rfl CEF.out _ _ rfl #[.agg #[.slice A nb c, .slice B n d], .agg #[.int .i64 kk.space, .int .i64 kk.page]] rfl (CF0.out _ (HB.out.ex (E0.out.trans hxa)) (HF.out.ex (E0.out.trans hxa))) ?_; rintro r w3 ⟨⟨s2, rfl⟩, he⟩; refine ⟨_, rfl, ?_⟩; have hx3 := Ex.trans hxa he
        refine hK.out _ _ ?r0_hS6 (fun hHeld6 => ?_)
        case r0_hS6 => exact FK9.out _ hx3
        clear hK K hHeld5
        try simp only [Act.put, List.setIfInBounds_toArray, List.set_cons_zero, List.set_cons_succ]
        refine tk 7 ?_; refine tk 8 ?_; refine tk 9 ?_; refine tk 10 ?_; refine tk 11 ?_
        refine wpAnyH_done (by kernel_rfl) ?_ _
        have HX3 := zq hx3
        clear hx3 hxa he hwa
        go_wp2_with fail
        have FK10 : Hid (∀ w', Ex w3 w' → True) := zq (fun w' h => trivial)
        refine wp_region_held_drew (S := (fun w' => True)) (by kernel_rfl) ?r1_hS0 (fun hHeld => ?_)
        case r1_hS0 => exact FK10.out _ (Ex.refl _).drew
        refine tk 0 ?_; refine tk 1 ?_; refine tk 2 ?_; refine tn 3 ?_; refine tn 4 ?_; refine tn 5 ?_; refine tn 6 ?_; refine tk 7 ?_; refine tk 8 ?_; refine tn 9 ?_; refine tn 10 ?_; refine tn 11 ?_; refine tn 12 ?_; refine tn 13 ?_
        refine tn 14 ?_; refine tn 15 ?_; refine tn 16 ?_; refine tn 17 ?_; refine tn 18 ?_; refine tk 19 ?_; refine tk 20 ?_; refine tn 21 ?_; refine tn 22 ?_; refine tn 23 ?_; refine tn 24 ?_; refine tn 25 ?_; refine tn 26 ?_; refine tn 27 ?_
        refine tn 28 ?_; refine tk 29 ?_; refine tk 30 ?_
        refine wpAnyH_done (by kernel_rfl) ?_ _
        go_wp2
        go_ret
        exact ⟨rfl, (E0.out.trans HX3.out).drew⟩
      rw [hm] at CF0 hq
      have hin := getElem?_lt hfi
      obtain ⟨b2, o2, f', rfl, hb2, hfi', k0, k1, k2, k3, k4⟩ := HF.out.frame hin
      have e : f = f' := by rw [hfi] at hfi'; injection hfi'
      subst e
      have HB2 := zq hb2
      have K3 := zq k3
      have HIFF : Hid (LineFits m ⟨xv, (-1), xp, xf, xr, xw⟩ ↔ (i : Int) = xf ∧ f.rights = xr ∧ (xw = true → (-1) = -1)) := zq (by
        constructor
        · rintro ⟨_, _, ⟨i', f', h1, h2, h3, h4⟩, h5⟩
          have e : i' = i := by rw [hq] at h1; omega
          subst e
          rw [hfi] at h3
          injection h3 with h3
          rw [h3]
          exact ⟨h2, h4, h5⟩
        · rintro ⟨h1, h2, h3⟩
          exact ⟨HT1.out, HT2.out, ⟨i, f, hq, h1, hfi, h2⟩, h3⟩)
      clear hb2 k0 k1 k2 k3 k4 hq hm hfi hfi' CF CK
      generalize m.table.frames.length = n at CF0 hin ⊢
      generalize m.table.buckets.length = nb at CF0 ⊢
      have hi0 : (0 : Int) ≤ (i : Int) := by omega
      by_cases hfr : (i : Int) = xf
      rotate_left
      · rw [lineFitsB_no (fun h => hfr (HIFF.out.1 h).1)]
        have hbb : ((i : Int) == xf) = false := by simpa using hfr
        go_enter Tryz.func50, Tryz.ntmps50
        go_wp2_with fail
        obtain ⟨w0, hw0⟩ : ∃ w0 : World, w0 = (w.alloc (.cells #[.slice A nb c, .slice (some ⟨b2, o2, none⟩) n d, .slice L nl e, .int .i64 m.cache.hand, .int .i64 m.tags.count, .int .i64 m.tags.next, .int .i64 m.tags.round, .slice O no g, .int .i64 m.space] 34)).alloc (.cells #[.bool xv, .int .i64 (-1), .int .i64 xp, .int .i64 xf, .int .i64 xr, .bool xw] 64) := ⟨_, rfl⟩
        obtain ⟨gm, hgm⟩ : ∃ gm : Nat, gm = w.heap.size := ⟨_, rfl⟩
        obtain ⟨gl, hgl⟩ : ∃ gl : Nat, gl = w.heap.size + 1 := ⟨_, rfl⟩
        have K0 : Hid (Blk w0 gm 34 [.slice A nb c, .slice (some ⟨b2, o2, none⟩) n d, .slice L nl e, .int .i64 m.cache.hand, .int .i64 m.tags.count, .int .i64 m.tags.next, .int .i64 m.tags.round, .slice O no g, .int .i64 m.space]) := zq (by rw [hw0, hgm]; exact (Blk.new w _ _).alloc _)
        have K1 : Hid (Blk w0 gl 64 [.bool xv, .int .i64 (-1), .int .i64 xp, .int .i64 xf, .int .i64 xr, .bool xw]) := zq (by rw [hw0, hgl]; exact Blk.new_at _ _ _ (by simp))
        have E0 : Hid (Ex w w0) := zq (by rw [hw0]; exact ((Ex.refl w).alloc _).alloc _)
        rw [← hw0]
        rw [← hgl]
        rw [← hgm]
        clear hw0 hgm hgl
        have FK9 : Hid (∀ w', Ex w0 w' → (w'.cell? ⟨gm, 0, none⟩ = some (.slice A nb c) ∧ w'.cell? ⟨gm, 1, none⟩ = some (.slice (some ⟨b2, o2, none⟩) n d) ∧ w'.cell? ⟨gl, 2, none⟩ = some (.int .i64 xp))) := zq (fun w' h => ⟨(K0.out.ex h).c9.1, (K0.out.ex h).c9.2.1, (K1.out.ex h).c6.2.2.1⟩)
        refine wp_region_held_drew (S := (fun w' => (w'.cell? ⟨gm, 0, none⟩ = some (.slice A nb c) ∧ w'.cell? ⟨gm, 1, none⟩ = some (.slice (some ⟨b2, o2, none⟩) n d) ∧ w'.cell? ⟨gl, 2, none⟩ = some (.int .i64 xp)))) (by kernel_rfl) ?r2_hS0 (fun hHeld => ?_)
        case r2_hS0 => exact FK9.out _ (Ex.refl _).drew
        refine tk 0 ?_; refine tk 1 ?_; refine tk 2 ?_; refine tk 3 ?_; refine tk 4 ?_
        refine wpAnyH_ready (rs := [5]) (by kernel_rfl) (by simp) ?_
        refine AllReadyH.cons (o := ?r2_o5) ?r2_ho5 (fun K hK => ?_) AllReadyH.nil
        case r2_ho5 => (conv => lhs; whnf; arg 1; whnf)
        refine step_call_gu rfl CEK.out _ _ rfl #[.int .i64 0, .int .i64 xp] rfl (CK0.out _) ?_; rintro r wa ⟨rfl, hwa⟩; refine ⟨_, rfl, ?_⟩; have hxa := Ex.trans (Ex.refl _).drew hwa
        refine hK.out _ _ ?r2_hS5 (fun hHeld5 => ?_)
        case r2_hS5 => exact FK9.out _ hxa
        clear hK K hHeld
        try simp only [Act.put, List.setIfInBounds_toArray, List.set_cons_zero, List.set_cons_succ]
        refine wpAnyH_ready (rs := [6]) (by kernel_rfl) (by simp) ?_
        refine AllReadyH.cons (o := ?r2_o6) ?r2_ho6 (fun K hK => ?_) AllReadyH.nil
        case r2_ho6 => (conv => lhs; whnf; arg 1; whnf)
        refine step_call_gu rfl CEF.out _ _ rfl #[.agg #[.slice A nb c, .slice (some ⟨b2, o2, none⟩) n d], .agg #[.int .i64 kk.space, .int .i64 kk.page]] rfl (CF0.out _ (HB.out.ex (E0.out.trans hxa)) (HF.out.ex (E0.out.trans hxa))) ?_; rintro r w3 ⟨⟨s2, rfl⟩, he⟩; refine ⟨_, rfl, ?_⟩; have hx3 := Ex.trans hxa he
        refine hK.out _ _ ?r2_hS6 (fun hHeld6 => ?_)
        case r2_hS6 => exact FK9.out _ hx3
        clear hK K hHeld5
        try simp only [Act.put, List.setIfInBounds_toArray, List.set_cons_zero, List.set_cons_succ]
        refine tk 7 ?_; refine tk 8 ?_; refine tk 9 ?_; refine tk 10 ?_; refine tk 11 ?_
        refine wpAnyH_done (by kernel_rfl) ?_ _
        have HX3 := zq hx3
        clear hx3 hxa he hwa
        go_wp2_with fail
        have FK10 : Hid (∀ w', Ex w3 w' → (w'.cell? ⟨gl, 3, none⟩ = some (.int .i64 xf))) := zq (fun w' h => (K1.out.ex (HX3.out.trans h)).c6.2.2.2.1)
        refine wp_region_held_drew (S := (fun w' => (w'.cell? ⟨gl, 3, none⟩ = some (.int .i64 xf)))) (by kernel_rfl) ?r3_hS0 (fun hHeld => ?_)
        case r3_hS0 => exact FK10.out _ (Ex.refl _).drew
        refine tk 0 ?_; refine tk 1 ?_; refine tk 2 ?_; refine tk 3 ?_; refine tk 4 ?_; refine tk 5 ?_; refine tk 6 ?_; refine tk 7 ?_; refine tk 8 ?_; refine tn 9 ?_; refine tn 10 ?_; refine tn 11 ?_; refine tn 12 ?_; refine tn 13 ?_
        refine tn 14 ?_; refine tn 15 ?_; refine tn 16 ?_; refine tn 17 ?_; refine tn 18 ?_; refine tk 19 ?_; refine tk 20 ?_; refine tn 21 ?_; refine tn 22 ?_; refine tn 23 ?_; refine tn 24 ?_; refine tn 25 ?_; refine tn 26 ?_; refine tn 27 ?_
        refine tn 28 ?_; refine tk 29 ?_; refine tk 30 ?_
        refine wpAnyH_done (by kernel_rfl) ?_ _
        go_wp2
        go_ret
        exact ⟨rfl, (E0.out.trans HX3.out).drew⟩
      by_cases hr : f.rights = xr
      rotate_left
      · rw [lineFitsB_no (fun h => hr (HIFF.out.1 h).2.1)]
        have hbb : (f.rights == xr) = false := by simpa using hr
        clear HIFF
        subst hfr
        go_enter Tryz.func50, Tryz.ntmps50
        go_wp2_with fail
        obtain ⟨w0, hw0⟩ : ∃ w0 : World, w0 = (w.alloc (.cells #[.slice A nb c, .slice (some ⟨b2, o2, none⟩) n d, .slice L nl e, .int .i64 m.cache.hand, .int .i64 m.tags.count, .int .i64 m.tags.next, .int .i64 m.tags.round, .slice O no g, .int .i64 m.space] 34)).alloc (.cells #[.bool xv, .int .i64 (-1), .int .i64 xp, .int .i64 (i : Int), .int .i64 xr, .bool xw] 64) := ⟨_, rfl⟩
        obtain ⟨gm, hgm⟩ : ∃ gm : Nat, gm = w.heap.size := ⟨_, rfl⟩
        obtain ⟨gl, hgl⟩ : ∃ gl : Nat, gl = w.heap.size + 1 := ⟨_, rfl⟩
        have K0 : Hid (Blk w0 gm 34 [.slice A nb c, .slice (some ⟨b2, o2, none⟩) n d, .slice L nl e, .int .i64 m.cache.hand, .int .i64 m.tags.count, .int .i64 m.tags.next, .int .i64 m.tags.round, .slice O no g, .int .i64 m.space]) := zq (by rw [hw0, hgm]; exact (Blk.new w _ _).alloc _)
        have K1 : Hid (Blk w0 gl 64 [.bool xv, .int .i64 (-1), .int .i64 xp, .int .i64 (i : Int), .int .i64 xr, .bool xw]) := zq (by rw [hw0, hgl]; exact Blk.new_at _ _ _ (by simp))
        have E0 : Hid (Ex w w0) := zq (by rw [hw0]; exact ((Ex.refl w).alloc _).alloc _)
        rw [← hw0]
        rw [← hgl]
        rw [← hgm]
        clear hw0 hgm hgl
        have FK9 : Hid (∀ w', Ex w0 w' → (w'.cell? ⟨gm, 0, none⟩ = some (.slice A nb c) ∧ w'.cell? ⟨gm, 1, none⟩ = some (.slice (some ⟨b2, o2, none⟩) n d) ∧ w'.cell? ⟨gl, 2, none⟩ = some (.int .i64 xp))) := zq (fun w' h => ⟨(K0.out.ex h).c9.1, (K0.out.ex h).c9.2.1, (K1.out.ex h).c6.2.2.1⟩)
        refine wp_region_held_drew (S := (fun w' => (w'.cell? ⟨gm, 0, none⟩ = some (.slice A nb c) ∧ w'.cell? ⟨gm, 1, none⟩ = some (.slice (some ⟨b2, o2, none⟩) n d) ∧ w'.cell? ⟨gl, 2, none⟩ = some (.int .i64 xp)))) (by kernel_rfl) ?r4_hS0 (fun hHeld => ?_)
        case r4_hS0 => exact FK9.out _ (Ex.refl _).drew
        refine tk 0 ?_; refine tk 1 ?_; refine tk 2 ?_; refine tk 3 ?_; refine tk 4 ?_
        refine wpAnyH_ready (rs := [5]) (by kernel_rfl) (by simp) ?_
        refine AllReadyH.cons (o := ?r4_o5) ?r4_ho5 (fun K hK => ?_) AllReadyH.nil
        case r4_ho5 => (conv => lhs; whnf; arg 1; whnf)
        refine step_call_gu rfl CEK.out _ _ rfl #[.int .i64 0, .int .i64 xp] rfl (CK0.out _) ?_; rintro r wa ⟨rfl, hwa⟩; refine ⟨_, rfl, ?_⟩; have hxa := Ex.trans (Ex.refl _).drew hwa
        refine hK.out _ _ ?r4_hS5 (fun hHeld5 => ?_)
        case r4_hS5 => exact FK9.out _ hxa
        clear hK K hHeld
        try simp only [Act.put, List.setIfInBounds_toArray, List.set_cons_zero, List.set_cons_succ]
        refine wpAnyH_ready (rs := [6]) (by kernel_rfl) (by simp) ?_
        refine AllReadyH.cons (o := ?r4_o6) ?r4_ho6 (fun K hK => ?_) AllReadyH.nil
        case r4_ho6 => (conv => lhs; whnf; arg 1; whnf)
        refine step_call_gu rfl CEF.out _ _ rfl #[.agg #[.slice A nb c, .slice (some ⟨b2, o2, none⟩) n d], .agg #[.int .i64 kk.space, .int .i64 kk.page]] rfl (CF0.out _ (HB.out.ex (E0.out.trans hxa)) (HF.out.ex (E0.out.trans hxa))) ?_; rintro r w3 ⟨⟨s2, rfl⟩, he⟩; refine ⟨_, rfl, ?_⟩; have hx3 := Ex.trans hxa he
        refine hK.out _ _ ?r4_hS6 (fun hHeld6 => ?_)
        case r4_hS6 => exact FK9.out _ hx3
        clear hK K hHeld5
        try simp only [Act.put, List.setIfInBounds_toArray, List.set_cons_zero, List.set_cons_succ]
        refine tk 7 ?_; refine tk 8 ?_; refine tk 9 ?_; refine tk 10 ?_; refine tk 11 ?_
        refine wpAnyH_done (by kernel_rfl) ?_ _
        have HX3 := zq hx3
        clear hx3 hxa he hwa
        go_wp2_with fail
        have FK10 : Hid (∀ w', Ex w3 w' → (w'.cell? ⟨gl, 3, none⟩ = some (.int .i64 (i : Int)) ∧ w'.cell? ⟨gl, 4, none⟩ = some (.int .i64 xr) ∧ w'.cell? ⟨gm, 1, none⟩ = some (.slice (some ⟨b2, o2, none⟩) n d) ∧ w'.cell? ⟨b2, o2 + i * 5 + 3, none⟩ = some (.int .i64 f.rights))) := zq (fun w' h => ⟨(K1.out.ex (HX3.out.trans h)).c6.2.2.2.1, (K1.out.ex (HX3.out.trans h)).c6.2.2.2.2.1, (K0.out.ex (HX3.out.trans h)).c9.2.1, (((E0.out.trans HX3.out).trans h).cell HB2.out).trans K3.out⟩)
        refine wp_region_held_drew (S := (fun w' => (w'.cell? ⟨gl, 3, none⟩ = some (.int .i64 (i : Int)) ∧ w'.cell? ⟨gl, 4, none⟩ = some (.int .i64 xr) ∧ w'.cell? ⟨gm, 1, none⟩ = some (.slice (some ⟨b2, o2, none⟩) n d) ∧ w'.cell? ⟨b2, o2 + i * 5 + 3, none⟩ = some (.int .i64 f.rights)))) (by kernel_rfl) ?r5_hS0 (fun hHeld => ?_)
        case r5_hS0 => exact FK10.out _ (Ex.refl _).drew
        refine tk 0 ?_; refine tk 1 ?_; refine tk 2 ?_; refine tk 3 ?_; refine tk 4 ?_; refine tk 5 ?_; refine tk 6 ?_; refine tk 7 ?_; refine tk 8 ?_; refine tk 9 ?_; refine tk 10 ?_; refine tk 11 ?_; refine tk 12 ?_; refine tk 13 ?_
        refine tk 14 ?_; refine tk 15 ?_; refine tk 16 ?_; refine tk 17 ?_; refine tk 18 ?_; refine tk 19 ?_; refine tk 20 ?_; refine tn 21 ?_; refine tn 22 ?_; refine tn 23 ?_; refine tn 24 ?_; refine tn 25 ?_; refine tn 26 ?_; refine tn 27 ?_
        refine tn 28 ?_; refine tk 29 ?_; refine tk 30 ?_
        refine wpAnyH_done (by kernel_rfl) ?_ _
        go_wp2
        go_ret
        exact ⟨rfl, (E0.out.trans HX3.out).drew⟩
      cases xw
      · rw [lineFitsB_iff.2 (HIFF.out.2 ⟨hfr, hr, (fun h => by cases h)⟩)]
        clear HIFF
        subst hfr
        subst hr
        go_enter Tryz.func50, Tryz.ntmps50
        go_wp2_with fail
        obtain ⟨w0, hw0⟩ : ∃ w0 : World, w0 = (w.alloc (.cells #[.slice A nb c, .slice (some ⟨b2, o2, none⟩) n d, .slice L nl e, .int .i64 m.cache.hand, .int .i64 m.tags.count, .int .i64 m.tags.next, .int .i64 m.tags.round, .slice O no g, .int .i64 m.space] 34)).alloc (.cells #[.bool xv, .int .i64 (-1), .int .i64 xp, .int .i64 (i : Int), .int .i64 f.rights, .bool false] 64) := ⟨_, rfl⟩
        obtain ⟨gm, hgm⟩ : ∃ gm : Nat, gm = w.heap.size := ⟨_, rfl⟩
        obtain ⟨gl, hgl⟩ : ∃ gl : Nat, gl = w.heap.size + 1 := ⟨_, rfl⟩
        have K0 : Hid (Blk w0 gm 34 [.slice A nb c, .slice (some ⟨b2, o2, none⟩) n d, .slice L nl e, .int .i64 m.cache.hand, .int .i64 m.tags.count, .int .i64 m.tags.next, .int .i64 m.tags.round, .slice O no g, .int .i64 m.space]) := zq (by rw [hw0, hgm]; exact (Blk.new w _ _).alloc _)
        have K1 : Hid (Blk w0 gl 64 [.bool xv, .int .i64 (-1), .int .i64 xp, .int .i64 (i : Int), .int .i64 f.rights, .bool false]) := zq (by rw [hw0, hgl]; exact Blk.new_at _ _ _ (by simp))
        have E0 : Hid (Ex w w0) := zq (by rw [hw0]; exact ((Ex.refl w).alloc _).alloc _)
        rw [← hw0]
        rw [← hgl]
        rw [← hgm]
        clear hw0 hgm hgl
        have FK9 : Hid (∀ w', Ex w0 w' → (w'.cell? ⟨gm, 0, none⟩ = some (.slice A nb c) ∧ w'.cell? ⟨gm, 1, none⟩ = some (.slice (some ⟨b2, o2, none⟩) n d) ∧ w'.cell? ⟨gl, 2, none⟩ = some (.int .i64 xp))) := zq (fun w' h => ⟨(K0.out.ex h).c9.1, (K0.out.ex h).c9.2.1, (K1.out.ex h).c6.2.2.1⟩)
        refine wp_region_held_drew (S := (fun w' => (w'.cell? ⟨gm, 0, none⟩ = some (.slice A nb c) ∧ w'.cell? ⟨gm, 1, none⟩ = some (.slice (some ⟨b2, o2, none⟩) n d) ∧ w'.cell? ⟨gl, 2, none⟩ = some (.int .i64 xp)))) (by kernel_rfl) ?r6_hS0 (fun hHeld => ?_)
        case r6_hS0 => exact FK9.out _ (Ex.refl _).drew
        refine tk 0 ?_; refine tk 1 ?_; refine tk 2 ?_; refine tk 3 ?_; refine tk 4 ?_
        refine wpAnyH_ready (rs := [5]) (by kernel_rfl) (by simp) ?_
        refine AllReadyH.cons (o := ?r6_o5) ?r6_ho5 (fun K hK => ?_) AllReadyH.nil
        case r6_ho5 => (conv => lhs; whnf; arg 1; whnf)
        refine step_call_gu rfl CEK.out _ _ rfl #[.int .i64 0, .int .i64 xp] rfl (CK0.out _) ?_; rintro r wa ⟨rfl, hwa⟩; refine ⟨_, rfl, ?_⟩; have hxa := Ex.trans (Ex.refl _).drew hwa
        refine hK.out _ _ ?r6_hS5 (fun hHeld5 => ?_)
        case r6_hS5 => exact FK9.out _ hxa
        clear hK K hHeld
        try simp only [Act.put, List.setIfInBounds_toArray, List.set_cons_zero, List.set_cons_succ]
        refine wpAnyH_ready (rs := [6]) (by kernel_rfl) (by simp) ?_
        refine AllReadyH.cons (o := ?r6_o6) ?r6_ho6 (fun K hK => ?_) AllReadyH.nil
        case r6_ho6 => (conv => lhs; whnf; arg 1; whnf)
        refine step_call_gu rfl CEF.out _ _ rfl #[.agg #[.slice A nb c, .slice (some ⟨b2, o2, none⟩) n d], .agg #[.int .i64 kk.space, .int .i64 kk.page]] rfl (CF0.out _ (HB.out.ex (E0.out.trans hxa)) (HF.out.ex (E0.out.trans hxa))) ?_; rintro r w3 ⟨⟨s2, rfl⟩, he⟩; refine ⟨_, rfl, ?_⟩; have hx3 := Ex.trans hxa he
        refine hK.out _ _ ?r6_hS6 (fun hHeld6 => ?_)
        case r6_hS6 => exact FK9.out _ hx3
        clear hK K hHeld5
        try simp only [Act.put, List.setIfInBounds_toArray, List.set_cons_zero, List.set_cons_succ]
        refine tk 7 ?_; refine tk 8 ?_; refine tk 9 ?_; refine tk 10 ?_; refine tk 11 ?_
        refine wpAnyH_done (by kernel_rfl) ?_ _
        have HX3 := zq hx3
        clear hx3 hxa he hwa
        go_wp2_with fail
        have FK10 : Hid (∀ w', Ex w3 w' → (w'.cell? ⟨gl, 3, none⟩ = some (.int .i64 (i : Int)) ∧ w'.cell? ⟨gl, 4, none⟩ = some (.int .i64 f.rights) ∧ w'.cell? ⟨gl, 5, none⟩ = some (.bool false) ∧ w'.cell? ⟨gm, 1, none⟩ = some (.slice (some ⟨b2, o2, none⟩) n d) ∧ w'.cell? ⟨b2, o2 + i * 5 + 3, none⟩ = some (.int .i64 f.rights))) := zq (fun w' h => ⟨(K1.out.ex (HX3.out.trans h)).c6.2.2.2.1, (K1.out.ex (HX3.out.trans h)).c6.2.2.2.2.1, (K1.out.ex (HX3.out.trans h)).c6.2.2.2.2.2, (K0.out.ex (HX3.out.trans h)).c9.2.1, (((E0.out.trans HX3.out).trans h).cell HB2.out).trans K3.out⟩)
        refine wp_region_held_drew (S := (fun w' => (w'.cell? ⟨gl, 3, none⟩ = some (.int .i64 (i : Int)) ∧ w'.cell? ⟨gl, 4, none⟩ = some (.int .i64 f.rights) ∧ w'.cell? ⟨gl, 5, none⟩ = some (.bool false) ∧ w'.cell? ⟨gm, 1, none⟩ = some (.slice (some ⟨b2, o2, none⟩) n d) ∧ w'.cell? ⟨b2, o2 + i * 5 + 3, none⟩ = some (.int .i64 f.rights)))) (by kernel_rfl) ?r7_hS0 (fun hHeld => ?_)
        case r7_hS0 => exact FK10.out _ (Ex.refl _).drew
        refine tk 0 ?_; refine tk 1 ?_; refine tk 2 ?_; refine tk 3 ?_; refine tk 4 ?_; refine tk 5 ?_; refine tk 6 ?_; refine tk 7 ?_; refine tk 8 ?_; refine tk 9 ?_; refine tk 10 ?_; refine tk 11 ?_; refine tk 12 ?_; refine tk 13 ?_
        refine tk 14 ?_; refine tk 15 ?_; refine tk 16 ?_; refine tk 17 ?_; refine tk 18 ?_; refine tk 19 ?_; refine tk 20 ?_; refine tk 21 ?_; refine tk 22 ?_; refine tk 23 ?_; refine tk 24 ?_; refine tn 25 ?_; refine tn 26 ?_; refine tn 27 ?_
        refine tk 28 ?_; refine tk 29 ?_; refine tk 30 ?_
        refine wpAnyH_done (by kernel_rfl) ?_ _
        go_wp2
        go_ret
        exact ⟨rfl, (E0.out.trans HX3.out).drew⟩
      · rw [lineFitsB_iff.2 (HIFF.out.2 ⟨hfr, hr, (fun _ => rfl)⟩)]
        clear HIFF
        subst hfr
        subst hr
        go_enter Tryz.func50, Tryz.ntmps50
        go_wp2_with fail
        obtain ⟨w0, hw0⟩ : ∃ w0 : World, w0 = (w.alloc (.cells #[.slice A nb c, .slice (some ⟨b2, o2, none⟩) n d, .slice L nl e, .int .i64 m.cache.hand, .int .i64 m.tags.count, .int .i64 m.tags.next, .int .i64 m.tags.round, .slice O no g, .int .i64 m.space] 34)).alloc (.cells #[.bool xv, .int .i64 (-1), .int .i64 xp, .int .i64 (i : Int), .int .i64 f.rights, .bool true] 64) := ⟨_, rfl⟩
        obtain ⟨gm, hgm⟩ : ∃ gm : Nat, gm = w.heap.size := ⟨_, rfl⟩
        obtain ⟨gl, hgl⟩ : ∃ gl : Nat, gl = w.heap.size + 1 := ⟨_, rfl⟩
        have K0 : Hid (Blk w0 gm 34 [.slice A nb c, .slice (some ⟨b2, o2, none⟩) n d, .slice L nl e, .int .i64 m.cache.hand, .int .i64 m.tags.count, .int .i64 m.tags.next, .int .i64 m.tags.round, .slice O no g, .int .i64 m.space]) := zq (by rw [hw0, hgm]; exact (Blk.new w _ _).alloc _)
        have K1 : Hid (Blk w0 gl 64 [.bool xv, .int .i64 (-1), .int .i64 xp, .int .i64 (i : Int), .int .i64 f.rights, .bool true]) := zq (by rw [hw0, hgl]; exact Blk.new_at _ _ _ (by simp))
        have E0 : Hid (Ex w w0) := zq (by rw [hw0]; exact ((Ex.refl w).alloc _).alloc _)
        rw [← hw0]
        rw [← hgl]
        rw [← hgm]
        clear hw0 hgm hgl
        have FK9 : Hid (∀ w', Ex w0 w' → (w'.cell? ⟨gm, 0, none⟩ = some (.slice A nb c) ∧ w'.cell? ⟨gm, 1, none⟩ = some (.slice (some ⟨b2, o2, none⟩) n d) ∧ w'.cell? ⟨gl, 2, none⟩ = some (.int .i64 xp))) := zq (fun w' h => ⟨(K0.out.ex h).c9.1, (K0.out.ex h).c9.2.1, (K1.out.ex h).c6.2.2.1⟩)
        refine wp_region_held_drew (S := (fun w' => (w'.cell? ⟨gm, 0, none⟩ = some (.slice A nb c) ∧ w'.cell? ⟨gm, 1, none⟩ = some (.slice (some ⟨b2, o2, none⟩) n d) ∧ w'.cell? ⟨gl, 2, none⟩ = some (.int .i64 xp)))) (by kernel_rfl) ?r8_hS0 (fun hHeld => ?_)
        case r8_hS0 => exact FK9.out _ (Ex.refl _).drew
        refine tk 0 ?_; refine tk 1 ?_; refine tk 2 ?_; refine tk 3 ?_; refine tk 4 ?_
        refine wpAnyH_ready (rs := [5]) (by kernel_rfl) (by simp) ?_
        refine AllReadyH.cons (o := ?r8_o5) ?r8_ho5 (fun K hK => ?_) AllReadyH.nil
        case r8_ho5 => (conv => lhs; whnf; arg 1; whnf)
        refine step_call_gu rfl CEK.out _ _ rfl #[.int .i64 0, .int .i64 xp] rfl (CK0.out _) ?_; rintro r wa ⟨rfl, hwa⟩; refine ⟨_, rfl, ?_⟩; have hxa := Ex.trans (Ex.refl _).drew hwa
        refine hK.out _ _ ?r8_hS5 (fun hHeld5 => ?_)
        case r8_hS5 => exact FK9.out _ hxa
        clear hK K hHeld
        try simp only [Act.put, List.setIfInBounds_toArray, List.set_cons_zero, List.set_cons_succ]
        refine wpAnyH_ready (rs := [6]) (by kernel_rfl) (by simp) ?_
        refine AllReadyH.cons (o := ?r8_o6) ?r8_ho6 (fun K hK => ?_) AllReadyH.nil
        case r8_ho6 => (conv => lhs; whnf; arg 1; whnf)
        refine step_call_gu rfl CEF.out _ _ rfl #[.agg #[.slice A nb c, .slice (some ⟨b2, o2, none⟩) n d], .agg #[.int .i64 kk.space, .int .i64 kk.page]] rfl (CF0.out _ (HB.out.ex (E0.out.trans hxa)) (HF.out.ex (E0.out.trans hxa))) ?_; rintro r w3 ⟨⟨s2, rfl⟩, he⟩; refine ⟨_, rfl, ?_⟩; have hx3 := Ex.trans hxa he
        refine hK.out _ _ ?r8_hS6 (fun hHeld6 => ?_)
        case r8_hS6 => exact FK9.out _ hx3
        clear hK K hHeld5
        try simp only [Act.put, List.setIfInBounds_toArray, List.set_cons_zero, List.set_cons_succ]
        refine tk 7 ?_; refine tk 8 ?_; refine tk 9 ?_; refine tk 10 ?_; refine tk 11 ?_
        refine wpAnyH_done (by kernel_rfl) ?_ _
        have HX3 := zq hx3
        clear hx3 hxa he hwa
        go_wp2_with fail
        have FK10 : Hid (∀ w', Ex w3 w' → (w'.cell? ⟨gl, 3, none⟩ = some (.int .i64 (i : Int)) ∧ w'.cell? ⟨gl, 4, none⟩ = some (.int .i64 f.rights) ∧ w'.cell? ⟨gl, 5, none⟩ = some (.bool true) ∧ w'.cell? ⟨gl, 1, none⟩ = some (.int .i64 (-1)) ∧ w'.cell? ⟨gm, 1, none⟩ = some (.slice (some ⟨b2, o2, none⟩) n d) ∧ w'.cell? ⟨b2, o2 + i * 5 + 3, none⟩ = some (.int .i64 f.rights))) := zq (fun w' h => ⟨(K1.out.ex (HX3.out.trans h)).c6.2.2.2.1, (K1.out.ex (HX3.out.trans h)).c6.2.2.2.2.1, (K1.out.ex (HX3.out.trans h)).c6.2.2.2.2.2, (K1.out.ex (HX3.out.trans h)).c6.2.1, (K0.out.ex (HX3.out.trans h)).c9.2.1, (((E0.out.trans HX3.out).trans h).cell HB2.out).trans K3.out⟩)
        refine wp_region_held_drew (S := (fun w' => (w'.cell? ⟨gl, 3, none⟩ = some (.int .i64 (i : Int)) ∧ w'.cell? ⟨gl, 4, none⟩ = some (.int .i64 f.rights) ∧ w'.cell? ⟨gl, 5, none⟩ = some (.bool true) ∧ w'.cell? ⟨gl, 1, none⟩ = some (.int .i64 (-1)) ∧ w'.cell? ⟨gm, 1, none⟩ = some (.slice (some ⟨b2, o2, none⟩) n d) ∧ w'.cell? ⟨b2, o2 + i * 5 + 3, none⟩ = some (.int .i64 f.rights)))) (by kernel_rfl) ?r9_hS0 (fun hHeld => ?_)
        case r9_hS0 => exact FK10.out _ (Ex.refl _).drew
        refine tk 0 ?_; refine tk 1 ?_; refine tk 2 ?_; refine tk 3 ?_; refine tk 4 ?_; refine tk 5 ?_; refine tk 6 ?_; refine tk 7 ?_; refine tk 8 ?_; refine tk 9 ?_; refine tk 10 ?_; refine tk 11 ?_; refine tk 12 ?_; refine tk 13 ?_
        refine tk 14 ?_; refine tk 15 ?_; refine tk 16 ?_; refine tk 17 ?_; refine tk 18 ?_; refine tk 19 ?_; refine tk 20 ?_; refine tk 21 ?_; refine tk 22 ?_; refine tk 23 ?_; refine tk 24 ?_; refine tk 25 ?_; refine tk 26 ?_; refine tk 27 ?_
        refine tk 28 ?_; refine tk 29 ?_; refine tk 30 ?_
        refine wpAnyH_done (by kernel_rfl) ?_ _
        go_wp2
        go_ret
        exact ⟨rfl, (E0.out.trans HX3.out).drew⟩
    · rw [lineFitsB_no (fun h => hpg (h.1.1 htg))]
      subst htg
      clear CT CF CK hsr
      generalize m.table.frames.length = n
      generalize m.table.buckets.length = nb
      go_enter Tryz.func50, Tryz.ntmps50
      go_wp2
      go_ret
      exact ⟨rfl, ((Ex.refl _).alloc _).alloc _⟩
  · have hb1 : (xt == -1) = false := by simpa using htg
    have hb2 : (!xt == -1) = true := by simp [hb1]
    by_cases hpg : 128 ≤ xp
    · rw [lineFitsB_no (fun h => htg (h.1.2 hpg))]
      clear CT CF CK hsr
      generalize m.table.frames.length = n
      generalize m.table.buckets.length = nb
      go_enter Tryz.func50, Tryz.ntmps50
      go_wp2
      go_ret
      exact ⟨rfl, ((Ex.refl _).alloc _).alloc _⟩
    · cases hso : (spaceOf m.tags xt).2
      · rw [lineFitsB_no (fun h => by have h1 : (spaceOf m.tags xt).2 = true := h.2.1 htg; rw [hso] at h1; cases h1)]
        rw [hso] at CT
        generalize (spaceOf m.tags xt).1 = sp at CT
        clear CF CK hsr hso
        generalize m.table.frames.length = n
        generalize m.table.buckets.length = nb
        go_enter Tryz.func50, Tryz.ntmps50
        go_wp2_with fail
        refine (CT.out _ ((HO.out.alloc _).alloc _)).mono ?_
        rintro r w0 ⟨rfl, he⟩
        go_wp2
        go_ret
        exact ⟨rfl, (((Ex.refl _).alloc _).alloc _).trans he⟩
      · have hq : lineAt m ⟨xv, xt, xp, xf, xr, xw⟩ = findF m.table (keyFor (spaceOf m.tags xt).1 xp) := by unfold lineAt lineSpace; rw [if_neg htg]
        have HT1 : Hid (xt = -1 ↔ 128 ≤ xp) := zq (by simp [htg, hpg])
        have HT2 : Hid (xt ≠ -1 → (spaceOf m.tags xt).2 = true) := zq (fun h => hso)
        rw [hso] at CT
        generalize (spaceOf m.tags xt).1 = sp at CT hq hsr
        have CF0 := zq (fun w' h1 h2 => CF.out sp w' h1 h2 hsr)
        have CK0 := zq (fun w' => CK.out sp w')
        clear hsr hso
        generalize keyFor sp xp = kk at hq CF0 CK0
        rcases findF_range (t := m.table) kk with hm | ⟨i, f, hm, hfi⟩
        · rw [lineFitsB_no (fun h => by obtain ⟨i, f, h1, _⟩ := h.2.2.1; rw [hq, hm] at h1; omega)]
          rw [hm] at CF0
          clear hq hm CF CK
          generalize m.table.frames.length = n at CF0 ⊢
          generalize m.table.buckets.length = nb at CF0 ⊢
          go_enter Tryz.func50, Tryz.ntmps50
          go_wp2_with fail
          refine (CT.out _ ((HO.out.alloc _).alloc _)).mono ?_
          rintro r w0 ⟨rfl, he⟩
          obtain ⟨gm, hgm⟩ : ∃ gm : Nat, gm = w.heap.size := ⟨_, rfl⟩
          obtain ⟨gl, hgl⟩ : ∃ gl : Nat, gl = w.heap.size + 1 := ⟨_, rfl⟩
          have K0 : Hid (Blk w0 gm 34 [.slice A nb c, .slice B n d, .slice L nl e, .int .i64 m.cache.hand, .int .i64 m.tags.count, .int .i64 m.tags.next, .int .i64 m.tags.round, .slice O no g, .int .i64 m.space]) := zq (by rw [hgm]; exact ((Blk.new w _ _).alloc _).ex he)
          have K1 : Hid (Blk w0 gl 64 [.bool xv, .int .i64 xt, .int .i64 xp, .int .i64 xf, .int .i64 xr, .bool xw]) := zq (by rw [hgl]; exact (Blk.new_at _ _ _ (by simp)).ex he)
          have E0 : Hid (Ex w w0) := zq (((Ex.refl w).alloc _).alloc _ |>.trans he)
          clear he
          rw [← hgl]
          rw [← hgm]
          clear hgm hgl
          go_wp2_with fail
          have FK9 : Hid (∀ w', Ex w0 w' → (w'.cell? ⟨gm, 0, none⟩ = some (.slice A nb c) ∧ w'.cell? ⟨gm, 1, none⟩ = some (.slice B n d) ∧ w'.cell? ⟨gl, 2, none⟩ = some (.int .i64 xp))) := zq (fun w' h => ⟨(K0.out.ex h).c9.1, (K0.out.ex h).c9.2.1, (K1.out.ex h).c6.2.2.1⟩)
          refine wp_region_held_drew (S := (fun w' => (w'.cell? ⟨gm, 0, none⟩ = some (.slice A nb c) ∧ w'.cell? ⟨gm, 1, none⟩ = some (.slice B n d) ∧ w'.cell? ⟨gl, 2, none⟩ = some (.int .i64 xp)))) (by kernel_rfl) ?r10_hS0 (fun hHeld => ?_)
          case r10_hS0 => exact FK9.out _ (Ex.refl _).drew
          refine tk 0 ?_; refine tk 1 ?_; refine tk 2 ?_; refine tk 3 ?_; refine tk 4 ?_
          refine wpAnyH_ready (rs := [5]) (by kernel_rfl) (by simp) ?_
          refine AllReadyH.cons (o := ?r10_o5) ?r10_ho5 (fun K hK => ?_) AllReadyH.nil
          case r10_ho5 => (conv => lhs; whnf; arg 1; whnf)
          refine step_call_gu rfl CEK.out _ _ rfl #[.int .i64 sp, .int .i64 xp] rfl (CK0.out _) ?_; rintro r wa ⟨rfl, hwa⟩; refine ⟨_, rfl, ?_⟩; have hxa := Ex.trans (Ex.refl _).drew hwa
          refine hK.out _ _ ?r10_hS5 (fun hHeld5 => ?_)
          case r10_hS5 => exact FK9.out _ hxa
          clear hK K hHeld
          try simp only [Act.put, List.setIfInBounds_toArray, List.set_cons_zero, List.set_cons_succ]
          refine wpAnyH_ready (rs := [6]) (by kernel_rfl) (by simp) ?_
          refine AllReadyH.cons (o := ?r10_o6) ?r10_ho6 (fun K hK => ?_) AllReadyH.nil
          case r10_ho6 => (conv => lhs; whnf; arg 1; whnf)
          refine step_call_gu rfl CEF.out _ _ rfl #[.agg #[.slice A nb c, .slice B n d], .agg #[.int .i64 kk.space, .int .i64 kk.page]] rfl (CF0.out _ (HB.out.ex (E0.out.trans hxa)) (HF.out.ex (E0.out.trans hxa))) ?_; rintro r w3 ⟨⟨s2, rfl⟩, he⟩; refine ⟨_, rfl, ?_⟩; have hx3 := Ex.trans hxa he
          refine hK.out _ _ ?r10_hS6 (fun hHeld6 => ?_)
          case r10_hS6 => exact FK9.out _ hx3
          clear hK K hHeld5
          try simp only [Act.put, List.setIfInBounds_toArray, List.set_cons_zero, List.set_cons_succ]
          refine tk 7 ?_; refine tk 8 ?_; refine tk 9 ?_; refine tk 10 ?_; refine tk 11 ?_
          refine wpAnyH_done (by kernel_rfl) ?_ _
          have HX3 := zq hx3
          clear hx3 hxa he hwa
          go_wp2_with fail
          have FK10 : Hid (∀ w', Ex w3 w' → True) := zq (fun w' h => trivial)
          refine wp_region_held_drew (S := (fun w' => True)) (by kernel_rfl) ?r11_hS0 (fun hHeld => ?_)
          case r11_hS0 => exact FK10.out _ (Ex.refl _).drew
          refine tk 0 ?_; refine tk 1 ?_; refine tk 2 ?_; refine tn 3 ?_; refine tn 4 ?_; refine tn 5 ?_; refine tn 6 ?_; refine tk 7 ?_; refine tk 8 ?_; refine tn 9 ?_; refine tn 10 ?_; refine tn 11 ?_; refine tn 12 ?_; refine tn 13 ?_
          refine tn 14 ?_; refine tn 15 ?_; refine tn 16 ?_; refine tn 17 ?_; refine tn 18 ?_; refine tk 19 ?_; refine tk 20 ?_; refine tn 21 ?_; refine tn 22 ?_; refine tn 23 ?_; refine tn 24 ?_; refine tn 25 ?_; refine tn 26 ?_; refine tn 27 ?_
          refine tn 28 ?_; refine tk 29 ?_; refine tk 30 ?_
          refine wpAnyH_done (by kernel_rfl) ?_ _
          go_wp2
          go_ret
          exact ⟨rfl, (E0.out.trans HX3.out).drew⟩
        rw [hm] at CF0 hq
        have hin := getElem?_lt hfi
        obtain ⟨b2, o2, f', rfl, hb2, hfi', k0, k1, k2, k3, k4⟩ := HF.out.frame hin
        have e : f = f' := by rw [hfi] at hfi'; injection hfi'
        subst e
        have HB2 := zq hb2
        have K3 := zq k3
        have HIFF : Hid (LineFits m ⟨xv, xt, xp, xf, xr, xw⟩ ↔ (i : Int) = xf ∧ f.rights = xr ∧ (xw = true → xt = -1)) := zq (by
          constructor
          · rintro ⟨_, _, ⟨i', f', h1, h2, h3, h4⟩, h5⟩
            have e : i' = i := by rw [hq] at h1; omega
            subst e
            rw [hfi] at h3
            injection h3 with h3
            rw [h3]
            exact ⟨h2, h4, h5⟩
          · rintro ⟨h1, h2, h3⟩
            exact ⟨HT1.out, HT2.out, ⟨i, f, hq, h1, hfi, h2⟩, h3⟩)
        clear hb2 k0 k1 k2 k3 k4 hq hm hfi hfi' CF CK
        generalize m.table.frames.length = n at CF0 hin ⊢
        generalize m.table.buckets.length = nb at CF0 ⊢
        have hi0 : (0 : Int) ≤ (i : Int) := by omega
        by_cases hfr : (i : Int) = xf
        rotate_left
        · rw [lineFitsB_no (fun h => hfr (HIFF.out.1 h).1)]
          have hbb : ((i : Int) == xf) = false := by simpa using hfr
          go_enter Tryz.func50, Tryz.ntmps50
          go_wp2_with fail
          refine (CT.out _ ((HO.out.alloc _).alloc _)).mono ?_
          rintro r w0 ⟨rfl, he⟩
          obtain ⟨gm, hgm⟩ : ∃ gm : Nat, gm = w.heap.size := ⟨_, rfl⟩
          obtain ⟨gl, hgl⟩ : ∃ gl : Nat, gl = w.heap.size + 1 := ⟨_, rfl⟩
          have K0 : Hid (Blk w0 gm 34 [.slice A nb c, .slice (some ⟨b2, o2, none⟩) n d, .slice L nl e, .int .i64 m.cache.hand, .int .i64 m.tags.count, .int .i64 m.tags.next, .int .i64 m.tags.round, .slice O no g, .int .i64 m.space]) := zq (by rw [hgm]; exact ((Blk.new w _ _).alloc _).ex he)
          have K1 : Hid (Blk w0 gl 64 [.bool xv, .int .i64 xt, .int .i64 xp, .int .i64 xf, .int .i64 xr, .bool xw]) := zq (by rw [hgl]; exact (Blk.new_at _ _ _ (by simp)).ex he)
          have E0 : Hid (Ex w w0) := zq (((Ex.refl w).alloc _).alloc _ |>.trans he)
          clear he
          rw [← hgl]
          rw [← hgm]
          clear hgm hgl
          go_wp2_with fail
          have FK9 : Hid (∀ w', Ex w0 w' → (w'.cell? ⟨gm, 0, none⟩ = some (.slice A nb c) ∧ w'.cell? ⟨gm, 1, none⟩ = some (.slice (some ⟨b2, o2, none⟩) n d) ∧ w'.cell? ⟨gl, 2, none⟩ = some (.int .i64 xp))) := zq (fun w' h => ⟨(K0.out.ex h).c9.1, (K0.out.ex h).c9.2.1, (K1.out.ex h).c6.2.2.1⟩)
          refine wp_region_held_drew (S := (fun w' => (w'.cell? ⟨gm, 0, none⟩ = some (.slice A nb c) ∧ w'.cell? ⟨gm, 1, none⟩ = some (.slice (some ⟨b2, o2, none⟩) n d) ∧ w'.cell? ⟨gl, 2, none⟩ = some (.int .i64 xp)))) (by kernel_rfl) ?r12_hS0 (fun hHeld => ?_)
          case r12_hS0 => exact FK9.out _ (Ex.refl _).drew
          refine tk 0 ?_; refine tk 1 ?_; refine tk 2 ?_; refine tk 3 ?_; refine tk 4 ?_
          refine wpAnyH_ready (rs := [5]) (by kernel_rfl) (by simp) ?_
          refine AllReadyH.cons (o := ?r12_o5) ?r12_ho5 (fun K hK => ?_) AllReadyH.nil
          case r12_ho5 => (conv => lhs; whnf; arg 1; whnf)
          refine step_call_gu rfl CEK.out _ _ rfl #[.int .i64 sp, .int .i64 xp] rfl (CK0.out _) ?_; rintro r wa ⟨rfl, hwa⟩; refine ⟨_, rfl, ?_⟩; have hxa := Ex.trans (Ex.refl _).drew hwa
          refine hK.out _ _ ?r12_hS5 (fun hHeld5 => ?_)
          case r12_hS5 => exact FK9.out _ hxa
          clear hK K hHeld
          try simp only [Act.put, List.setIfInBounds_toArray, List.set_cons_zero, List.set_cons_succ]
          refine wpAnyH_ready (rs := [6]) (by kernel_rfl) (by simp) ?_
          refine AllReadyH.cons (o := ?r12_o6) ?r12_ho6 (fun K hK => ?_) AllReadyH.nil
          case r12_ho6 => (conv => lhs; whnf; arg 1; whnf)
          refine step_call_gu rfl CEF.out _ _ rfl #[.agg #[.slice A nb c, .slice (some ⟨b2, o2, none⟩) n d], .agg #[.int .i64 kk.space, .int .i64 kk.page]] rfl (CF0.out _ (HB.out.ex (E0.out.trans hxa)) (HF.out.ex (E0.out.trans hxa))) ?_; rintro r w3 ⟨⟨s2, rfl⟩, he⟩; refine ⟨_, rfl, ?_⟩; have hx3 := Ex.trans hxa he
          refine hK.out _ _ ?r12_hS6 (fun hHeld6 => ?_)
          case r12_hS6 => exact FK9.out _ hx3
          clear hK K hHeld5
          try simp only [Act.put, List.setIfInBounds_toArray, List.set_cons_zero, List.set_cons_succ]
          refine tk 7 ?_; refine tk 8 ?_; refine tk 9 ?_; refine tk 10 ?_; refine tk 11 ?_
          refine wpAnyH_done (by kernel_rfl) ?_ _
          have HX3 := zq hx3
          clear hx3 hxa he hwa
          go_wp2_with fail
          have FK10 : Hid (∀ w', Ex w3 w' → (w'.cell? ⟨gl, 3, none⟩ = some (.int .i64 xf))) := zq (fun w' h => (K1.out.ex (HX3.out.trans h)).c6.2.2.2.1)
          refine wp_region_held_drew (S := (fun w' => (w'.cell? ⟨gl, 3, none⟩ = some (.int .i64 xf)))) (by kernel_rfl) ?r13_hS0 (fun hHeld => ?_)
          case r13_hS0 => exact FK10.out _ (Ex.refl _).drew
          refine tk 0 ?_; refine tk 1 ?_; refine tk 2 ?_; refine tk 3 ?_; refine tk 4 ?_; refine tk 5 ?_; refine tk 6 ?_; refine tk 7 ?_; refine tk 8 ?_; refine tn 9 ?_; refine tn 10 ?_; refine tn 11 ?_; refine tn 12 ?_; refine tn 13 ?_
          refine tn 14 ?_; refine tn 15 ?_; refine tn 16 ?_; refine tn 17 ?_; refine tn 18 ?_; refine tk 19 ?_; refine tk 20 ?_; refine tn 21 ?_; refine tn 22 ?_; refine tn 23 ?_; refine tn 24 ?_; refine tn 25 ?_; refine tn 26 ?_; refine tn 27 ?_
          refine tn 28 ?_; refine tk 29 ?_; refine tk 30 ?_
          refine wpAnyH_done (by kernel_rfl) ?_ _
          go_wp2
          go_ret
          exact ⟨rfl, (E0.out.trans HX3.out).drew⟩
        by_cases hr : f.rights = xr
        rotate_left
        · rw [lineFitsB_no (fun h => hr (HIFF.out.1 h).2.1)]
          have hbb : (f.rights == xr) = false := by simpa using hr
          clear HIFF
          subst hfr
          go_enter Tryz.func50, Tryz.ntmps50
          go_wp2_with fail
          refine (CT.out _ ((HO.out.alloc _).alloc _)).mono ?_
          rintro r w0 ⟨rfl, he⟩
          obtain ⟨gm, hgm⟩ : ∃ gm : Nat, gm = w.heap.size := ⟨_, rfl⟩
          obtain ⟨gl, hgl⟩ : ∃ gl : Nat, gl = w.heap.size + 1 := ⟨_, rfl⟩
          have K0 : Hid (Blk w0 gm 34 [.slice A nb c, .slice (some ⟨b2, o2, none⟩) n d, .slice L nl e, .int .i64 m.cache.hand, .int .i64 m.tags.count, .int .i64 m.tags.next, .int .i64 m.tags.round, .slice O no g, .int .i64 m.space]) := zq (by rw [hgm]; exact ((Blk.new w _ _).alloc _).ex he)
          have K1 : Hid (Blk w0 gl 64 [.bool xv, .int .i64 xt, .int .i64 xp, .int .i64 (i : Int), .int .i64 xr, .bool xw]) := zq (by rw [hgl]; exact (Blk.new_at _ _ _ (by simp)).ex he)
          have E0 : Hid (Ex w w0) := zq (((Ex.refl w).alloc _).alloc _ |>.trans he)
          clear he
          rw [← hgl]
          rw [← hgm]
          clear hgm hgl
          go_wp2_with fail
          have FK9 : Hid (∀ w', Ex w0 w' → (w'.cell? ⟨gm, 0, none⟩ = some (.slice A nb c) ∧ w'.cell? ⟨gm, 1, none⟩ = some (.slice (some ⟨b2, o2, none⟩) n d) ∧ w'.cell? ⟨gl, 2, none⟩ = some (.int .i64 xp))) := zq (fun w' h => ⟨(K0.out.ex h).c9.1, (K0.out.ex h).c9.2.1, (K1.out.ex h).c6.2.2.1⟩)
          refine wp_region_held_drew (S := (fun w' => (w'.cell? ⟨gm, 0, none⟩ = some (.slice A nb c) ∧ w'.cell? ⟨gm, 1, none⟩ = some (.slice (some ⟨b2, o2, none⟩) n d) ∧ w'.cell? ⟨gl, 2, none⟩ = some (.int .i64 xp)))) (by kernel_rfl) ?r14_hS0 (fun hHeld => ?_)
          case r14_hS0 => exact FK9.out _ (Ex.refl _).drew
          refine tk 0 ?_; refine tk 1 ?_; refine tk 2 ?_; refine tk 3 ?_; refine tk 4 ?_
          refine wpAnyH_ready (rs := [5]) (by kernel_rfl) (by simp) ?_
          refine AllReadyH.cons (o := ?r14_o5) ?r14_ho5 (fun K hK => ?_) AllReadyH.nil
          case r14_ho5 => (conv => lhs; whnf; arg 1; whnf)
          refine step_call_gu rfl CEK.out _ _ rfl #[.int .i64 sp, .int .i64 xp] rfl (CK0.out _) ?_; rintro r wa ⟨rfl, hwa⟩; refine ⟨_, rfl, ?_⟩; have hxa := Ex.trans (Ex.refl _).drew hwa
          refine hK.out _ _ ?r14_hS5 (fun hHeld5 => ?_)
          case r14_hS5 => exact FK9.out _ hxa
          clear hK K hHeld
          try simp only [Act.put, List.setIfInBounds_toArray, List.set_cons_zero, List.set_cons_succ]
          refine wpAnyH_ready (rs := [6]) (by kernel_rfl) (by simp) ?_
          refine AllReadyH.cons (o := ?r14_o6) ?r14_ho6 (fun K hK => ?_) AllReadyH.nil
          case r14_ho6 => (conv => lhs; whnf; arg 1; whnf)
          refine step_call_gu rfl CEF.out _ _ rfl #[.agg #[.slice A nb c, .slice (some ⟨b2, o2, none⟩) n d], .agg #[.int .i64 kk.space, .int .i64 kk.page]] rfl (CF0.out _ (HB.out.ex (E0.out.trans hxa)) (HF.out.ex (E0.out.trans hxa))) ?_; rintro r w3 ⟨⟨s2, rfl⟩, he⟩; refine ⟨_, rfl, ?_⟩; have hx3 := Ex.trans hxa he
          refine hK.out _ _ ?r14_hS6 (fun hHeld6 => ?_)
          case r14_hS6 => exact FK9.out _ hx3
          clear hK K hHeld5
          try simp only [Act.put, List.setIfInBounds_toArray, List.set_cons_zero, List.set_cons_succ]
          refine tk 7 ?_; refine tk 8 ?_; refine tk 9 ?_; refine tk 10 ?_; refine tk 11 ?_
          refine wpAnyH_done (by kernel_rfl) ?_ _
          have HX3 := zq hx3
          clear hx3 hxa he hwa
          go_wp2_with fail
          have FK10 : Hid (∀ w', Ex w3 w' → (w'.cell? ⟨gl, 3, none⟩ = some (.int .i64 (i : Int)) ∧ w'.cell? ⟨gl, 4, none⟩ = some (.int .i64 xr) ∧ w'.cell? ⟨gm, 1, none⟩ = some (.slice (some ⟨b2, o2, none⟩) n d) ∧ w'.cell? ⟨b2, o2 + i * 5 + 3, none⟩ = some (.int .i64 f.rights))) := zq (fun w' h => ⟨(K1.out.ex (HX3.out.trans h)).c6.2.2.2.1, (K1.out.ex (HX3.out.trans h)).c6.2.2.2.2.1, (K0.out.ex (HX3.out.trans h)).c9.2.1, (((E0.out.trans HX3.out).trans h).cell HB2.out).trans K3.out⟩)
          refine wp_region_held_drew (S := (fun w' => (w'.cell? ⟨gl, 3, none⟩ = some (.int .i64 (i : Int)) ∧ w'.cell? ⟨gl, 4, none⟩ = some (.int .i64 xr) ∧ w'.cell? ⟨gm, 1, none⟩ = some (.slice (some ⟨b2, o2, none⟩) n d) ∧ w'.cell? ⟨b2, o2 + i * 5 + 3, none⟩ = some (.int .i64 f.rights)))) (by kernel_rfl) ?r15_hS0 (fun hHeld => ?_)
          case r15_hS0 => exact FK10.out _ (Ex.refl _).drew
          refine tk 0 ?_; refine tk 1 ?_; refine tk 2 ?_; refine tk 3 ?_; refine tk 4 ?_; refine tk 5 ?_; refine tk 6 ?_; refine tk 7 ?_; refine tk 8 ?_; refine tk 9 ?_; refine tk 10 ?_; refine tk 11 ?_; refine tk 12 ?_; refine tk 13 ?_
          refine tk 14 ?_; refine tk 15 ?_; refine tk 16 ?_; refine tk 17 ?_; refine tk 18 ?_; refine tk 19 ?_; refine tk 20 ?_; refine tn 21 ?_; refine tn 22 ?_; refine tn 23 ?_; refine tn 24 ?_; refine tn 25 ?_; refine tn 26 ?_; refine tn 27 ?_
          refine tn 28 ?_; refine tk 29 ?_; refine tk 30 ?_
          refine wpAnyH_done (by kernel_rfl) ?_ _
          go_wp2
          go_ret
          exact ⟨rfl, (E0.out.trans HX3.out).drew⟩
        cases xw
        · rw [lineFitsB_iff.2 (HIFF.out.2 ⟨hfr, hr, (fun h => by cases h)⟩)]
          clear HIFF
          subst hfr
          subst hr
          go_enter Tryz.func50, Tryz.ntmps50
          go_wp2_with fail
          refine (CT.out _ ((HO.out.alloc _).alloc _)).mono ?_
          rintro r w0 ⟨rfl, he⟩
          obtain ⟨gm, hgm⟩ : ∃ gm : Nat, gm = w.heap.size := ⟨_, rfl⟩
          obtain ⟨gl, hgl⟩ : ∃ gl : Nat, gl = w.heap.size + 1 := ⟨_, rfl⟩
          have K0 : Hid (Blk w0 gm 34 [.slice A nb c, .slice (some ⟨b2, o2, none⟩) n d, .slice L nl e, .int .i64 m.cache.hand, .int .i64 m.tags.count, .int .i64 m.tags.next, .int .i64 m.tags.round, .slice O no g, .int .i64 m.space]) := zq (by rw [hgm]; exact ((Blk.new w _ _).alloc _).ex he)
          have K1 : Hid (Blk w0 gl 64 [.bool xv, .int .i64 xt, .int .i64 xp, .int .i64 (i : Int), .int .i64 f.rights, .bool false]) := zq (by rw [hgl]; exact (Blk.new_at _ _ _ (by simp)).ex he)
          have E0 : Hid (Ex w w0) := zq (((Ex.refl w).alloc _).alloc _ |>.trans he)
          clear he
          rw [← hgl]
          rw [← hgm]
          clear hgm hgl
          go_wp2_with fail
          have FK9 : Hid (∀ w', Ex w0 w' → (w'.cell? ⟨gm, 0, none⟩ = some (.slice A nb c) ∧ w'.cell? ⟨gm, 1, none⟩ = some (.slice (some ⟨b2, o2, none⟩) n d) ∧ w'.cell? ⟨gl, 2, none⟩ = some (.int .i64 xp))) := zq (fun w' h => ⟨(K0.out.ex h).c9.1, (K0.out.ex h).c9.2.1, (K1.out.ex h).c6.2.2.1⟩)
          refine wp_region_held_drew (S := (fun w' => (w'.cell? ⟨gm, 0, none⟩ = some (.slice A nb c) ∧ w'.cell? ⟨gm, 1, none⟩ = some (.slice (some ⟨b2, o2, none⟩) n d) ∧ w'.cell? ⟨gl, 2, none⟩ = some (.int .i64 xp)))) (by kernel_rfl) ?r16_hS0 (fun hHeld => ?_)
          case r16_hS0 => exact FK9.out _ (Ex.refl _).drew
          refine tk 0 ?_; refine tk 1 ?_; refine tk 2 ?_; refine tk 3 ?_; refine tk 4 ?_
          refine wpAnyH_ready (rs := [5]) (by kernel_rfl) (by simp) ?_
          refine AllReadyH.cons (o := ?r16_o5) ?r16_ho5 (fun K hK => ?_) AllReadyH.nil
          case r16_ho5 => (conv => lhs; whnf; arg 1; whnf)
          refine step_call_gu rfl CEK.out _ _ rfl #[.int .i64 sp, .int .i64 xp] rfl (CK0.out _) ?_; rintro r wa ⟨rfl, hwa⟩; refine ⟨_, rfl, ?_⟩; have hxa := Ex.trans (Ex.refl _).drew hwa
          refine hK.out _ _ ?r16_hS5 (fun hHeld5 => ?_)
          case r16_hS5 => exact FK9.out _ hxa
          clear hK K hHeld
          try simp only [Act.put, List.setIfInBounds_toArray, List.set_cons_zero, List.set_cons_succ]
          refine wpAnyH_ready (rs := [6]) (by kernel_rfl) (by simp) ?_
          refine AllReadyH.cons (o := ?r16_o6) ?r16_ho6 (fun K hK => ?_) AllReadyH.nil
          case r16_ho6 => (conv => lhs; whnf; arg 1; whnf)
          refine step_call_gu rfl CEF.out _ _ rfl #[.agg #[.slice A nb c, .slice (some ⟨b2, o2, none⟩) n d], .agg #[.int .i64 kk.space, .int .i64 kk.page]] rfl (CF0.out _ (HB.out.ex (E0.out.trans hxa)) (HF.out.ex (E0.out.trans hxa))) ?_; rintro r w3 ⟨⟨s2, rfl⟩, he⟩; refine ⟨_, rfl, ?_⟩; have hx3 := Ex.trans hxa he
          refine hK.out _ _ ?r16_hS6 (fun hHeld6 => ?_)
          case r16_hS6 => exact FK9.out _ hx3
          clear hK K hHeld5
          try simp only [Act.put, List.setIfInBounds_toArray, List.set_cons_zero, List.set_cons_succ]
          refine tk 7 ?_; refine tk 8 ?_; refine tk 9 ?_; refine tk 10 ?_; refine tk 11 ?_
          refine wpAnyH_done (by kernel_rfl) ?_ _
          have HX3 := zq hx3
          clear hx3 hxa he hwa
          go_wp2_with fail
          have FK10 : Hid (∀ w', Ex w3 w' → (w'.cell? ⟨gl, 3, none⟩ = some (.int .i64 (i : Int)) ∧ w'.cell? ⟨gl, 4, none⟩ = some (.int .i64 f.rights) ∧ w'.cell? ⟨gl, 5, none⟩ = some (.bool false) ∧ w'.cell? ⟨gm, 1, none⟩ = some (.slice (some ⟨b2, o2, none⟩) n d) ∧ w'.cell? ⟨b2, o2 + i * 5 + 3, none⟩ = some (.int .i64 f.rights))) := zq (fun w' h => ⟨(K1.out.ex (HX3.out.trans h)).c6.2.2.2.1, (K1.out.ex (HX3.out.trans h)).c6.2.2.2.2.1, (K1.out.ex (HX3.out.trans h)).c6.2.2.2.2.2, (K0.out.ex (HX3.out.trans h)).c9.2.1, (((E0.out.trans HX3.out).trans h).cell HB2.out).trans K3.out⟩)
          refine wp_region_held_drew (S := (fun w' => (w'.cell? ⟨gl, 3, none⟩ = some (.int .i64 (i : Int)) ∧ w'.cell? ⟨gl, 4, none⟩ = some (.int .i64 f.rights) ∧ w'.cell? ⟨gl, 5, none⟩ = some (.bool false) ∧ w'.cell? ⟨gm, 1, none⟩ = some (.slice (some ⟨b2, o2, none⟩) n d) ∧ w'.cell? ⟨b2, o2 + i * 5 + 3, none⟩ = some (.int .i64 f.rights)))) (by kernel_rfl) ?r17_hS0 (fun hHeld => ?_)
          case r17_hS0 => exact FK10.out _ (Ex.refl _).drew
          refine tk 0 ?_; refine tk 1 ?_; refine tk 2 ?_; refine tk 3 ?_; refine tk 4 ?_; refine tk 5 ?_; refine tk 6 ?_; refine tk 7 ?_; refine tk 8 ?_; refine tk 9 ?_; refine tk 10 ?_; refine tk 11 ?_; refine tk 12 ?_; refine tk 13 ?_
          refine tk 14 ?_; refine tk 15 ?_; refine tk 16 ?_; refine tk 17 ?_; refine tk 18 ?_; refine tk 19 ?_; refine tk 20 ?_; refine tk 21 ?_; refine tk 22 ?_; refine tk 23 ?_; refine tk 24 ?_; refine tn 25 ?_; refine tn 26 ?_; refine tn 27 ?_
          refine tk 28 ?_; refine tk 29 ?_; refine tk 30 ?_
          refine wpAnyH_done (by kernel_rfl) ?_ _
          go_wp2
          go_ret
          exact ⟨rfl, (E0.out.trans HX3.out).drew⟩
        · rw [lineFitsB_no (fun h => htg ((HIFF.out.1 h).2.2 rfl))]
          clear HIFF
          subst hfr
          subst hr
          go_enter Tryz.func50, Tryz.ntmps50
          go_wp2_with fail
          refine (CT.out _ ((HO.out.alloc _).alloc _)).mono ?_
          rintro r w0 ⟨rfl, he⟩
          obtain ⟨gm, hgm⟩ : ∃ gm : Nat, gm = w.heap.size := ⟨_, rfl⟩
          obtain ⟨gl, hgl⟩ : ∃ gl : Nat, gl = w.heap.size + 1 := ⟨_, rfl⟩
          have K0 : Hid (Blk w0 gm 34 [.slice A nb c, .slice (some ⟨b2, o2, none⟩) n d, .slice L nl e, .int .i64 m.cache.hand, .int .i64 m.tags.count, .int .i64 m.tags.next, .int .i64 m.tags.round, .slice O no g, .int .i64 m.space]) := zq (by rw [hgm]; exact ((Blk.new w _ _).alloc _).ex he)
          have K1 : Hid (Blk w0 gl 64 [.bool xv, .int .i64 xt, .int .i64 xp, .int .i64 (i : Int), .int .i64 f.rights, .bool true]) := zq (by rw [hgl]; exact (Blk.new_at _ _ _ (by simp)).ex he)
          have E0 : Hid (Ex w w0) := zq (((Ex.refl w).alloc _).alloc _ |>.trans he)
          clear he
          rw [← hgl]
          rw [← hgm]
          clear hgm hgl
          go_wp2_with fail
          have FK9 : Hid (∀ w', Ex w0 w' → (w'.cell? ⟨gm, 0, none⟩ = some (.slice A nb c) ∧ w'.cell? ⟨gm, 1, none⟩ = some (.slice (some ⟨b2, o2, none⟩) n d) ∧ w'.cell? ⟨gl, 2, none⟩ = some (.int .i64 xp))) := zq (fun w' h => ⟨(K0.out.ex h).c9.1, (K0.out.ex h).c9.2.1, (K1.out.ex h).c6.2.2.1⟩)
          refine wp_region_held_drew (S := (fun w' => (w'.cell? ⟨gm, 0, none⟩ = some (.slice A nb c) ∧ w'.cell? ⟨gm, 1, none⟩ = some (.slice (some ⟨b2, o2, none⟩) n d) ∧ w'.cell? ⟨gl, 2, none⟩ = some (.int .i64 xp)))) (by kernel_rfl) ?r18_hS0 (fun hHeld => ?_)
          case r18_hS0 => exact FK9.out _ (Ex.refl _).drew
          refine tk 0 ?_; refine tk 1 ?_; refine tk 2 ?_; refine tk 3 ?_; refine tk 4 ?_
          refine wpAnyH_ready (rs := [5]) (by kernel_rfl) (by simp) ?_
          refine AllReadyH.cons (o := ?r18_o5) ?r18_ho5 (fun K hK => ?_) AllReadyH.nil
          case r18_ho5 => (conv => lhs; whnf; arg 1; whnf)
          refine step_call_gu rfl CEK.out _ _ rfl #[.int .i64 sp, .int .i64 xp] rfl (CK0.out _) ?_; rintro r wa ⟨rfl, hwa⟩; refine ⟨_, rfl, ?_⟩; have hxa := Ex.trans (Ex.refl _).drew hwa
          refine hK.out _ _ ?r18_hS5 (fun hHeld5 => ?_)
          case r18_hS5 => exact FK9.out _ hxa
          clear hK K hHeld
          try simp only [Act.put, List.setIfInBounds_toArray, List.set_cons_zero, List.set_cons_succ]
          refine wpAnyH_ready (rs := [6]) (by kernel_rfl) (by simp) ?_
          refine AllReadyH.cons (o := ?r18_o6) ?r18_ho6 (fun K hK => ?_) AllReadyH.nil
          case r18_ho6 => (conv => lhs; whnf; arg 1; whnf)
          refine step_call_gu rfl CEF.out _ _ rfl #[.agg #[.slice A nb c, .slice (some ⟨b2, o2, none⟩) n d], .agg #[.int .i64 kk.space, .int .i64 kk.page]] rfl (CF0.out _ (HB.out.ex (E0.out.trans hxa)) (HF.out.ex (E0.out.trans hxa))) ?_; rintro r w3 ⟨⟨s2, rfl⟩, he⟩; refine ⟨_, rfl, ?_⟩; have hx3 := Ex.trans hxa he
          refine hK.out _ _ ?r18_hS6 (fun hHeld6 => ?_)
          case r18_hS6 => exact FK9.out _ hx3
          clear hK K hHeld5
          try simp only [Act.put, List.setIfInBounds_toArray, List.set_cons_zero, List.set_cons_succ]
          refine tk 7 ?_; refine tk 8 ?_; refine tk 9 ?_; refine tk 10 ?_; refine tk 11 ?_
          refine wpAnyH_done (by kernel_rfl) ?_ _
          have HX3 := zq hx3
          clear hx3 hxa he hwa
          go_wp2_with fail
          have FK10 : Hid (∀ w', Ex w3 w' → (w'.cell? ⟨gl, 3, none⟩ = some (.int .i64 (i : Int)) ∧ w'.cell? ⟨gl, 4, none⟩ = some (.int .i64 f.rights) ∧ w'.cell? ⟨gl, 5, none⟩ = some (.bool true) ∧ w'.cell? ⟨gl, 1, none⟩ = some (.int .i64 xt) ∧ w'.cell? ⟨gm, 1, none⟩ = some (.slice (some ⟨b2, o2, none⟩) n d) ∧ w'.cell? ⟨b2, o2 + i * 5 + 3, none⟩ = some (.int .i64 f.rights))) := zq (fun w' h => ⟨(K1.out.ex (HX3.out.trans h)).c6.2.2.2.1, (K1.out.ex (HX3.out.trans h)).c6.2.2.2.2.1, (K1.out.ex (HX3.out.trans h)).c6.2.2.2.2.2, (K1.out.ex (HX3.out.trans h)).c6.2.1, (K0.out.ex (HX3.out.trans h)).c9.2.1, (((E0.out.trans HX3.out).trans h).cell HB2.out).trans K3.out⟩)
          refine wp_region_held_drew (S := (fun w' => (w'.cell? ⟨gl, 3, none⟩ = some (.int .i64 (i : Int)) ∧ w'.cell? ⟨gl, 4, none⟩ = some (.int .i64 f.rights) ∧ w'.cell? ⟨gl, 5, none⟩ = some (.bool true) ∧ w'.cell? ⟨gl, 1, none⟩ = some (.int .i64 xt) ∧ w'.cell? ⟨gm, 1, none⟩ = some (.slice (some ⟨b2, o2, none⟩) n d) ∧ w'.cell? ⟨b2, o2 + i * 5 + 3, none⟩ = some (.int .i64 f.rights)))) (by kernel_rfl) ?r19_hS0 (fun hHeld => ?_)
          case r19_hS0 => exact FK10.out _ (Ex.refl _).drew
          refine tk 0 ?_; refine tk 1 ?_; refine tk 2 ?_; refine tk 3 ?_; refine tk 4 ?_; refine tk 5 ?_; refine tk 6 ?_; refine tk 7 ?_; refine tk 8 ?_; refine tk 9 ?_; refine tk 10 ?_; refine tk 11 ?_; refine tk 12 ?_; refine tk 13 ?_
          refine tk 14 ?_; refine tk 15 ?_; refine tk 16 ?_; refine tk 17 ?_; refine tk 18 ?_; refine tk 19 ?_; refine tk 20 ?_; refine tk 21 ?_; refine tk 22 ?_; refine tk 23 ?_; refine tk 24 ?_; refine tk 25 ?_; refine tk 26 ?_; refine tk 27 ?_
          refine tk 28 ?_; refine tk 29 ?_; refine tk 30 ?_
          refine wpAnyH_done (by kernel_rfl) ?_ _
          go_wp2
          go_ret
          exact ⟨rfl, (E0.out.trans HX3.out).drew⟩

/-- How many of the first k lines are not wired. -/
def freeUp (xs : List LineD) (k : Nat) : Nat := (xs.take k).countP fun x => !x.wired
theorem freeUp_succ {xs : List LineD} {k : Nat} {x : LineD} (h : xs[k]? = some x) : freeUp xs (k + 1) = freeUp xs k + (if x.wired then 0 else 1) := by
  unfold freeUp
  rw [take_succ_of h, List.countP_append]
  cases hw : x.wired <;> simp [hw]
theorem freeUp_le (xs : List LineD) (k : Nat) : freeUp xs k ≤ k := by
  unfold freeUp
  have := List.countP_le_length (p := fun x : LineD => !x.wired) (l := xs.take k)
  rw [List.length_take] at this
  omega
theorem freeUp_loose (xs : List LineD) (k : Nat) : looseUp xs k = decide ((0 : Int) < (freeUp xs k : Int)) := by
  unfold freeUp looseUp
  rw [Bool.eq_iff_iff, decide_eq_true_iff]
  have := List.countP_pos_iff (p := fun x : LineD => !x.wired) (l := xs.take k)
  rw [List.any_eq_true]
  constructor
  · rintro ⟨x, h1, h2⟩
    have := this.2 ⟨x, h1, h2⟩
    omega
  · intro h
    obtain ⟨x, h1, h2⟩ := this.1 (by omega)
    exact ⟨x, h1, h2⟩

set_option maxHeartbeats 2000000 in
theorem cacheValidS_c (t : CacheD) (A : Option Addr) (c : Nat) (w : World) (hx : Rd w A t.lines) (hn : t.lines.length ≤ 1048576) (hc : t.lines.length ≤ c) :
    Calls Tryz.prog 47 #[.agg #[.slice A t.lines.length c, .int .i64 t.hand]] w fun r w' => r = .returned (.bool (cacheV t)) ∧ Ex w w' := by
  have B1 := zq (fun k x => @cacheV_bad_line t k x)
  have B2 := zq (fun k j x y => @cacheV_bad_clash t k j x y)
  have B3 := zq (@cacheV_bad_size t)
  have B4 := zq (@cacheV_end t)
  obtain ⟨xs, hand⟩ := t
  simp only at B1 B2 B3 B4 hx hn hc ⊢
  generalize cacheV ⟨xs, hand⟩ = res at *
  obtain ⟨n, hn1⟩ : ∃ n, n = xs.length := ⟨_, rfl⟩
  have HN := zq hn1
  rw [← hn1] at B3 B4 hn hc ⊢
  have HX := zq hx
  clear hn1 hx
  by_cases g1 : n < 1
  · have g1' : (n : Int) < 1 := by omega
    obtain rfl : res = false := B3.out (by omega)
    go_enter Tryz.func47, Tryz.ntmps47
    go_wp2
    go_ret
    exact ⟨rfl, (Ex.refl _).alloc _⟩
  by_cases g2 : 8 < n
  · have g2' : (8 : Int) < (n : Int) := by omega
    have g1' : ¬ (n : Int) < 1 := by omega
    obtain rfl : res = false := B3.out (by omega)
    go_enter Tryz.func47, Tryz.ntmps47
    go_wp2
    go_ret
    exact ⟨rfl, (Ex.refl _).alloc _⟩
  have g1' : ¬ (n : Int) < 1 := by omega
  have g2' : ¬ (8 : Int) < (n : Int) := by omega
  by_cases g3 : hand < 0
  · obtain rfl : res = false := B3.out (by omega)
    go_enter Tryz.func47, Tryz.ntmps47
    go_wp2
    go_ret
    exact ⟨rfl, (Ex.refl _).alloc _⟩
  by_cases g4 : (n : Int) ≤ hand
  · have g3' : 0 ≤ hand := by omega
    obtain rfl : res = false := B3.out (by omega)
    go_enter Tryz.func47, Tryz.ntmps47
    go_wp2
    go_ret
    exact ⟨rfl, (Ex.refl _).alloc _⟩
  have g3' : 0 ≤ hand := by omega
  have g4' : hand < n := by omega
  have HS : Hid (1 ≤ n ∧ n ≤ 8 ∧ 0 ≤ hand ∧ hand < n) := zq (by omega)
  clear g3 g4
  go_enter Tryz.func47, Tryz.ntmps47
  go_wp2
  obtain ⟨w0, hw0⟩ : ∃ w0 : World, w0 = w.alloc (.cells #[.slice A n c, .int .i64 hand] 29) := ⟨_, rfl⟩
  obtain ⟨gb, hgb⟩ : ∃ gb : Nat, gb = w.heap.size := ⟨_, rfl⟩
  have K0 : Hid (Blk w0 gb 29 [.slice A n c, .int .i64 hand]) := zq (by rw [hw0, hgb]; exact Blk.new w _ _)
  have E0 : Hid (Ex w w0) := zq (by rw [hw0]; exact (Ex.refl w).alloc _)
  rw [← hw0, ← hgb]
  clear hw0 hgb
  go_loopw [4, 3] (fun i f wr => ∃ k : Nat, k ≤ n ∧ i = .int .i64 k ∧ f = .int .i64 (freeUp xs k) ∧ Ex w0 wr ∧ OkUp xs k) (fun i _ _ => n - (intOf i).toNat)
  case atStart => exact ⟨0, Nat.zero_le _, rfl, by simp [freeUp], Ex.refl _, fun i x hi => by omega⟩
  case round =>
    obtain ⟨k, hk, rfl, rfl, hbel, hok⟩ := hrel
    have HB := zq hbel
    have HOK := zq hok
    clear hbel hok
    obtain ⟨q0, q1⟩ := (K0.out.ex HB.out).c2
    have lb := (K0.out.ex HB.out).lt
    by_cases hlt : k < n
    · obtain ⟨b1, o1, x, rfl, hb1, hxk, h0, h1, h2, h3, h4, h5⟩ := Rd.line ((HX.out.ex E0.out).ex HB.out) (k := k) (by have := HN.out; omega)
      have HXK := zq hxk
      clear hxk
      go_wp2_with fail
      refine (l4Line_c x _).mono ?_
      rintro r w2 ⟨rfl, hb2⟩
      have HB2 : Hid (Ex wr w2) := zq ((((Ex.refl wr).alloc _)).trans hb2)
      have KX : Hid (Blk w2 wr.heap.size 64 [.bool x.valid, .int .i64 x.tag, .int .i64 x.page, .int .i64 x.frame, .int .i64 x.rights, .bool x.wired]) := zq ((Blk.new_at _ _ _ rfl).ex hb2)
      clear hb2 h0 h1 h2 h3 h4 h5 q0 q1
      cases hv : lineV x
      · obtain rfl : res = false := B1.out k x HXK.out hv
        go_wp2
        go_ret
        exact ⟨rfl, (E0.out.trans HB.out).trans HB2.out⟩
      · have HV := zq hv
        obtain ⟨gx, hgx⟩ : ∃ gx : Nat, gx = wr.heap.size := ⟨_, rfl⟩
        rw [← hgx] at KX ⊢
        clear hgx
        obtain ⟨p0, p1, p2, p3, p4, p5⟩ := KX.out.c6
        have lx := KX.out.lt
        have HE2 : Hid (Ex w w2) := zq ((E0.out.trans HB.out).trans HB2.out)
        have HX2 : Hid (Rd w2 (some ⟨b1, o1, none⟩) xs) := zq (HX.out.ex HE2.out)
        have KB2 : Hid (Blk w2 gb 29 [.slice (some ⟨b1, o1, none⟩) n c, .int .i64 hand]) := zq ((K0.out.ex HB.out).ex HB2.out)
        have HC : Hid (∀ (j : Nat) (y : LineD), j < 0 → xs[j]? = some y → clashB x y = false) := zq (fun j y h => by omega)
        have HW : Hid (Ex w0 w2) := zq (HB.out.trans HB2.out)
        have HFS := zq (freeUp_succ HXK.out)
        have hfl := freeUp_le xs k
        have HFU : Hid (∃ fu, fu = freeUp xs (k + 1) ∧ fu ≤ 10) := zq ⟨_, rfl, by have := freeUp_le xs (k + 1); omega⟩
        generalize freeUp xs k = fk at *
        clear HB2 HB lb hv
        have hfk : fk ≤ 10 := by omega
        clear hfl
        cases hwi : x.wired
        all_goals
          rw [hwi] at p5
          go_wp2_with fail
          clear p0 p1 p2 p3 p4 p5 lx
          go_loopw [6] (fun j wi => ∃ m : Nat, m ≤ k ∧ j = .int .i64 m ∧ Ex w2 wi ∧ ∀ (j : Nat) (y : LineD), j < m → xs[j]? = some y → clashB x y = false) (fun j _ => k - (intOf j).toNat)
          case atStart => exact ⟨0, Nat.zero_le _, rfl, Ex.refl _, HC.out⟩
          case round =>
            obtain ⟨m, hm, rfl, hbi, hcl⟩ := hrel
            have HBI := zq hbi
            have HCL := zq hcl
            clear hbi hcl
            obtain ⟨p0, p1, p2, p3, p4, p5⟩ := (KX.out.ex HBI.out).c6
            have lx := (KX.out.ex HBI.out).lt
            obtain ⟨q0, q1⟩ := (KB2.out.ex HBI.out).c2
            have lb := (KB2.out.ex HBI.out).lt
            by_cases hlm : m < k
            · obtain ⟨y, hb1', hyk, y0, y1, y2, y3, y4, y5⟩ := Rd.line_known (HX2.out.ex HBI.out) (k := m) (by have := HN.out; omega)
              have HYK := zq hyk
              clear hyk
              have hmn : (m : Int) < (n : Int) := by omega
              rcases clash_split x y with ⟨c1, e⟩ | ⟨c1, c2, e⟩ | ⟨c1, c2, c3, e⟩ | ⟨c1, c2, c3, c4, e⟩ | ⟨c1, c2, c3, c4, c5, e⟩ | ⟨c1, c2, c3, c4, c5, c6, e⟩ | ⟨c1, c2, c3, c4, c5, c6, e⟩
              all_goals
                have HCY := zq e
                clear e
                first
                  | (obtain rfl : res = false := B2.out k m x y HXK.out HYK.out hlm HCY.out
                     go_wp2
                     go_ret
                     exact ⟨rfl, (HE2.out.trans HBI.out).alloc _⟩)
                  | (go_wp2
                     go_roundw
                     case rel => exact ⟨m + 1, by omega, by go_num, HBI.out.alloc _, fun j z hj hz => by
                       by_cases e : j = m
                       · subst e
                         have := HYK.out
                         rw [this] at hz
                         injection hz with hz
                         rw [← hz]; exact HCY.out
                       · exact HCL.out j z (by omega) hz⟩
                     case measure => simp [intOf]; omega)
            · obtain rfl : m = k := by omega
              have HOK2 : Hid (OkUp xs (m + 1)) := zq (okUp_succ HOK.out HXK.out HV.out HCL.out)
              go_wp2
              go_roundw
              case rel => exact ⟨m + 1, by omega, by go_num, by rw [HFS.out]; simp [hwi], HW.out.trans HBI.out, HOK2.out⟩
              case measure => simp [intOf]; omega
    · obtain rfl : k = n := by omega
      have HR : Hid (res = looseUp xs k) := zq (B4.out (by have := HS.out; omega) HOK.out)
      have HFL := zq (freeUp_loose xs k)
      generalize freeUp xs k = fk at *
      go_wp2
      go_ret
      exact ⟨ret_bool (by rw [HR.out, HFL.out]; simp), E0.out.trans HB.out⟩
end Go.Proofs.YtbdlpbladpppjaaGreatDoor
