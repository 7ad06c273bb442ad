/- slices.Repeat of a slice of one element; copying rows of records. -/
import Derived.Test.YtkoegcalfibinaaDoorMi
import Derived.Test.YtkoegcalfibinaaDoorMf
import Derived.Test.YtkoegcalfibinaaDoorAp
import Derived.Laws.CopyRow
import Derived.Deep.RegionHeld3
namespace Go.Proofs.YtkoegcalfibinaaDoor
open Go.ChangeShapes Go.WideShapes Go.ChangeAt Go.RowKit
open Rec (sz cs)
set_option linter.unusedVariables false
set_option maxRecDepth 100000

theorem run_copy_rec {P : Program} (w : World) (dT sT ty elem : TypeId) (g o dLen dCap : Nat) (a : Addr) (sLen sCap : Nat) (cur : Array Value) (t : TypeId) (l : List Value) (k n : Nat)
    (hu : P.underlying dT = some (.slice elem)) (hs : (P.info? elem).map (·.size) = some k)
    (hg : w.heap[g]? = some (.cells cur t (0, 0))) (hn : n = Nat.min sLen dLen) (hk : l.length = n * k)
    (hsrc : ∀ j v, l[j]? = some v → w.cell? (a.add j) = some v) (hfit : o + l.length ≤ cur.size) (h1 : ∀ v ∈ l, v.oneCell' = true) :
    (Builtin.copy_ #[dT, sT] ty #[.slice (some ⟨g, o, none⟩) dLen dCap, .slice (some a) sLen sCap]).run P w =
      .ok (goInt n) (w.setRow g (cur.toList.take o ++ l ++ cur.toList.drop (o + l.length)).toArray) := by
  have hl := run_loadCells_list (P := P) w a l hsrc
  have hst := run_storeCells_at P g o t l 0 cur w hg (by simpa using hfit) h1
  cases hq : P.info? elem with
  | none => simp [hq] at hs
  | some i =>
    have hi : i.size = k := by simpa [hq] using hs
    rw [hk] at hl
    simp [Builtin.copy_, run_underlying hu, Builtin.lenOf, Builtin.firstCells, sizeOf, typeInfo, hq, hi, ← hn, hl, hst]

/-- A row's head is copied behind its first m records. -/
theorem copied {α : Type} [Rec α] {P : Program} {w : World} {E g : Nat} {zs : List α} (hb : Bk E w g zs []) (dT sT ty : TypeId) (hu : P.underlying dT = some (.slice E)) (hs : (P.info? E).map (·.size) = some (sz α))
    (a : Addr) (xs : List α) (hx : ∀ j u, (flat xs)[j]? = some u → w.cell? (a.add j) = some u) (m p dLen dCap sLen sCap : Nat) (hp : p = Nat.min sLen dLen) (hpl : xs.length = p) (hm : m + p ≤ zs.length) :
    ∃ w', (Builtin.copy_ #[dT, sT] ty #[.slice (some ⟨g, m * sz α, none⟩) dLen dCap, .slice (some a) sLen sCap]).run P w = .ok (goInt p) w' ∧ Bk E w' g (zs.take m ++ xs ++ zs.drop (m + p)) [] ∧ w.grownBy w' (some g) := by
  have hg : w.heap[g]? = some (.cells (flat zs).toArray E (0, 0)) := by have := hb; unfold Bk Blk at this; simpa using this
  have hfl : (flat xs).length = p * sz α := by rw [flat_length, hpl]
  refine ⟨_, run_copy_rec w dT sT ty E g (m * sz α) dLen dCap a sLen sCap (flat zs).toArray E (flat xs) (sz α) p hu hs hg hp hfl hx ?_ (flat_one xs), ?_, ?_⟩
  · simp only [List.size_toArray]
    rw [hfl, flat_length, ← Nat.add_mul]
    exact Nat.mul_le_mul_right _ hm
  · have h2 := setRow_heap w g (flat zs).toArray ((flat zs).toArray.toList.take (m * sz α) ++ flat xs ++ (flat zs).toArray.toList.drop (m * sz α + (flat xs).length)).toArray E (0, 0) hg
    unfold Bk Blk
    rw [h2]
    simp only [List.append_nil]
    congr 2
    rw [flat_append, flat_append, flat_take, flat_drop, hfl, Nat.add_mul]
  · exact ⟨rfl, rfl, rfl, by simp [World.setRow], fun i hi hn => setRow_other w g i _ (fun e => hn (by rw [e]))⟩

theorem step_copied {P : Program} {w : World} {ops : Array Oper} {o : Oper} {a : Act} {K : Act → World → Prop} {Q : Exit → Act → World → Prop} {X : Prop} (hw : Region.wanted o (yielded ops a.tmps) = true) (d s : Operand) (dT sT : TypeId)
    (ho : o.op = .call { callee := .builtin .copy, args := #[d, s], argTypes := #[dT, sT] }) (dv sv : Value) (hd : a.eval d = dv) (hs : a.eval s = sv) {p : Nat} {w' : World} (hr : (Builtin.copy_ #[dT, sT] o.type #[dv, sv]).run P w = .ok (goInt p) w')
    (h : K (a.put o.dst (goInt p)) w') : if Region.wanted o (yielded ops a.tmps) = true then Oper.wp P o a w K Q else X := by
  rw [if_pos hw]
  unfold Oper.wp
  simp [execOp, ho, resolve, invoke, builtin, hd, hs, hr, Result.andThen]
  exact h
theorem wpList_copied {P : Program} {w : World} {ops : Array Oper} {rest : List Oper} {o : Oper} {a : Act} {Q : Exit → Act → World → Prop} (hgd : o.guard = none) (d s : Operand) (dT sT : TypeId)
    (ho : o.op = .call { callee := .builtin .copy, args := #[d, s], argTypes := #[dT, sT] }) (dv sv : Value) (hd : a.eval d = dv) (hs : a.eval s = sv) {p : Nat} {w' : World} (hr : (Builtin.copy_ #[dT, sT] o.type #[dv, sv]).run P w = .ok (goInt p) w')
    (h : wpList P ops Q rest (a.put o.dst (goInt p)) w') : wpList P ops Q (o :: rest) a w := by
  refine wpList_plain hgd fun K hK => ?_
  unfold Oper.wp
  simp [execOp, ho, resolve, invoke, builtin, hd, hs, hr, Result.andThen]
  exact hK _ _ h

set_option maxHeartbeats 4000000 in
theorem mul64_c (n : Nat) (h1 : 1 ≤ n) (h2 : n ≤ 16) (w : World) : Calls Tryd.prog 132 #[.int .u64 1, .int .u64 (n : Int)] w fun r w' => r = .returned (.tuple #[.int .u64 0, .int .u64 (n : Int)]) ∧ w = w' := by
  have : n = 1 ∨ n = 2 ∨ n = 3 ∨ n = 4 ∨ n = 5 ∨ n = 6 ∨ n = 7 ∨ n = 8 ∨ n = 9 ∨ n = 10 ∨ n = 11 ∨ n = 12 ∨ n = 13 ∨ n = 14 ∨ n = 15 ∨ n = 16 := by omega
  rcases this with rfl | rfl | rfl | rfl | rfl | rfl | rfl | rfl | rfl | rfl | rfl | rfl | rfl | rfl | rfl | rfl
  all_goals
    go_enter Tryd.func132, Tryd.ntmps132
    go_wp2
    go_ret2
    exact ⟨rfl, rfl⟩
theorem mul_c (n : Nat) (h1 : 1 ≤ n) (h2 : n ≤ 16) (w : World) : Calls Tryd.prog 119 #[.int .u64 1, .int .u64 (n : Int)] w fun r w' => r = .returned (.tuple #[.int .u64 0, .int .u64 (n : Int)]) ∧ w = w' := by
  go_enter Tryd.func119, Tryd.ntmps119
  go_wp2_with (go_at_call 132; go_must (refine (mul64_c n h1 h2 _).mono ?_); rintro r w2 ⟨rfl, rfl⟩)
  go_ret2
  exact ⟨rfl, rfl⟩

set_option maxHeartbeats 4000000 in
theorem repeatInt_c (A : Option Addr) (v : Int) (n : Nat) (w : World) (hx : Rd w A [v]) (h1 : 1 ≤ n) (h2 : n ≤ 16) :
    Calls Tryd.prog 74 #[.slice A 1 1, .int .i64 (n : Int)] w
    fun r w' => ∃ A', r = .returned (.slice A' n n) ∧ Fr 3 w' w.heap.size A' n (List.replicate n v) ∧ Ex w w' := by
  have hmk := make_rec (P := Tryd.prog) (α := Int) 22 3 8 0 _ Tryd.underlying22 infoMInt rfl n (by omega) (by omega)
  have hsize : (Tryd.prog.info? 3).map (·.size) = some (sz Int) := by kernel_rfl
  have HX := Lib.hid hx
  obtain ⟨b0, o0, hA, hb0, hc0⟩ := hx (by simp)
  subst hA
  clear hx
  have HB0 : Hid (Bk 3 (w.alloc (.cells (flat (List.replicate n (0 : Int))).toArray 3)) w.heap.size (List.replicate n (0 : Int)) []) := Lib.hid (Bk.new _ _ _)
  have hln : (List.replicate n (0 : Int)).length = n := List.length_replicate
  obtain ⟨w2, hrun, hbk, hgr⟩ := copied (α := Int) HB0.out 22 22 3 Tryd.underlying22 hsize ⟨b0, o0, none⟩ [v] (Rd.news (HX.out.alloc _)) 0 1 n n 1 1 (by simp [Nat.min_def]; omega) rfl (by rw [hln]; omega)
  have HBK : Hid (Bk 3 w2 w.heap.size ((List.replicate n (0 : Int)).take 0 ++ [v] ++ (List.replicate n (0 : Int)).drop (0 + 1)) []) := Lib.hid hbk
  have HGR := Lib.hid hgr
  rw [Nat.zero_mul] at hrun
  have HZL : Hid (((List.replicate n (0 : Int)).take 0 ++ [v] ++ (List.replicate n (0 : Int)).drop (0 + 1)).length = n) := Lib.hid (by simp; omega)
  have HZT : Hid (((List.replicate n (0 : Int)).take 0 ++ [v] ++ (List.replicate n (0 : Int)).drop (0 + 1)).take 1 = List.replicate 1 v) := Lib.hid (by simp)
  have HE2 : Hid (Ex w w2) := Lib.hid (((Ex.refl w).alloc _).grown HGR.out (fun g hg => by injection hg with hg; omega))
  generalize (List.replicate n (0 : Int)).take 0 ++ [v] ++ (List.replicate n (0 : Int)).drop (0 + 1) = zs0 at HBK HZL HZT
  clear hbk hgr HB0 hln HGR
  go_enter Tryd.func74, Tryd.ntmps74
  go_wp2_with fail
  refine (mul_c n h1 h2 _).mono ?_
  rintro r w1 ⟨rfl, rfl⟩
  go_wp2_with fail
  obtain ⟨g0, hg0⟩ : ∃ g0, g0 = w.heap.size := ⟨_, rfl⟩
  rw [← hg0] at HBK
  try rw [← hg0]
  have HG0 : Hid (g0 = w.heap.size) := Lib.hid hg0
  clear hg0 hrun hmk
  go_loopw [8] (fun q wr => ∃ (m : Nat) (zs : List Int), 1 ≤ m ∧ m ≤ n ∧ q = .int .i64 m ∧ Ex w wr ∧ zs.length = n ∧ zs.take m = List.replicate m v ∧ Bk 3 wr g0 zs []) (fun q _ => n - (intOf q).toNat)
  case atStart => exact ⟨1, zs0, Nat.le_refl _, h1, rfl, HE2.out, HZL.out, HZT.out, HBK.out⟩
  case round =>
    obtain ⟨m, zs, hm1, hm2, rfl, hex, hzl, hzt, hbk⟩ := hrel
    have HE := Lib.hid hex
    have HZ := Lib.hid hzl
    have HT := Lib.hid hzt
    have HB := Lib.hid hbk
    clear hex hzl hzt hbk
    by_cases hlt : m < n
    · obtain ⟨p, hp⟩ : ∃ p, p = Nat.min m (n - m) := ⟨_, rfl⟩
      have hp0 : p ≤ m ∧ p ≤ n - m ∧ (p = m ∨ p = n - m) := by subst hp; simp [Nat.min_def]; split <;> omega
      have hpl : (zs.take p).length = p := by rw [List.length_take, HZ.out]; omega
      have hmp : m + p ≤ zs.length := by rw [HZ.out]; omega
      obtain ⟨w2, hrun, hbk2, hgr2⟩ := copied (α := Int) (Bk.drew HB.out) 22 22 3 Tryd.underlying22 hsize ⟨g0, 0, none⟩ (zs.take p) (Rd.news ((Bk.drew HB.out).rd.take p)) m p (n - m) (n - m) m n hp hpl hmp
      rw [show m * sz Int = m from Nat.mul_one m] at hrun
      have HRUN := Lib.hid hrun
      have HB2 := Lib.hid hbk2
      have HG2 := Lib.hid hgr2
      have hmn0 : (0 : Int) ≤ (m : Int) := by omega
      have hmne : ¬ n = m := by omega
      have hmn1 : (m : Int) ≤ (n : Int) := by omega
      have HP0 := Lib.hid hp0
      have hp16 : p ≤ 16 := by omega
      have hwr : IntKind.i64.wrap ((m : Int) + (p : Int)) = (m : Int) + (p : Int) := IntWalk.i64_in _ (by omega)
      clear hrun hbk2 hgr2 hp hpl hmp hp0
      go_wp2_with fail
      refine wp_region_held_drew (S := (fun _ => True)) (by kernel_rfl) ?r0_hS0 (fun hHeld => ?_)
      case r0_hS0 => exact trivial
      refine wpAnyH_take (i := 0) (oi := ?r0_o0) (v := ?r0_v0) ?r0_ho0 (by kernel_rfl) (by kernel_rfl) (by kernel_rfl) ?r0_hq0 ?r0_hy0 (by assumption) ?_
      case r0_ho0 => (conv => lhs; whnf; arg 1; whnf)
      case r0_hq0 => exact fun _ _ _ h => h
      case r0_hy0 => (refine Or.inl ⟨by rfl, ?_⟩; intro w hSw; (try dsimp only at hSw); first | (go_simp; done) | (go_simp; with_reducible rfl))
      try simp only [Act.put, List.setIfInBounds_toArray, List.set_cons_zero, List.set_cons_succ]
      refine wpAnyH_take (i := 1) (oi := ?r0_o1) (v := ?r0_v1) ?r0_ho1 (by kernel_rfl) (by kernel_rfl) (by kernel_rfl) ?r0_hq1 ?r0_hy1 (by assumption) ?_
      case r0_ho1 => (conv => lhs; whnf; arg 1; whnf)
      case r0_hq1 => exact fun _ _ _ h => h
      case r0_hy1 => (refine Or.inl ⟨by rfl, ?_⟩; intro w hSw; (try dsimp only at hSw); first | (go_simp; done) | (go_simp; with_reducible rfl))
      try simp only [Act.put, List.setIfInBounds_toArray, List.set_cons_zero, List.set_cons_succ]
      refine wpAnyH_take (i := 2) (oi := ?r0_o2) (v := ?r0_v2) ?r0_ho2 (by kernel_rfl) (by kernel_rfl) (by kernel_rfl) ?r0_hq2 ?r0_hy2 (by assumption) ?_
      case r0_ho2 => (conv => lhs; whnf; arg 1; whnf)
      case r0_hq2 => exact fun _ _ _ h => h
      case r0_hy2 => (refine Or.inl ⟨by rfl, ?_⟩; intro w hSw; (try dsimp only at hSw); first | (go_simp; done) | (go_simp; with_reducible rfl))
      try simp only [Act.put, List.setIfInBounds_toArray, List.set_cons_zero, List.set_cons_succ]
      refine wpAnyH_take (i := 3) (oi := ?r0_o3) (v := ?r0_v3) ?r0_ho3 (by kernel_rfl) (by kernel_rfl) (by kernel_rfl) ?r0_hq3 ?r0_hy3 (by assumption) ?_
      case r0_ho3 => (conv => lhs; whnf; arg 1; whnf)
      case r0_hq3 => exact fun _ _ _ h => h
      case r0_hy3 => (refine Or.inl ⟨by rfl, ?_⟩; intro w hSw; (try dsimp only at hSw); first | (go_simp; done) | (go_simp; with_reducible rfl))
      try simp only [Act.put, List.setIfInBounds_toArray, List.set_cons_zero, List.set_cons_succ]
      refine wpAnyH_take (i := 4) (oi := ?r0_o4) (v := ?r0_v4) ?r0_ho4 (by kernel_rfl) (by kernel_rfl) (by kernel_rfl) ?r0_hq4 ?r0_hy4 (by assumption) ?_
      case r0_ho4 => (conv => lhs; whnf; arg 1; whnf)
      case r0_hq4 => exact fun _ _ _ h => h
      case r0_hy4 => (refine Or.inl ⟨by rfl, ?_⟩; intro w hSw; (try dsimp only at hSw); first | (go_simp; done) | (go_simp; with_reducible rfl))
      try simp only [Act.put, List.setIfInBounds_toArray, List.set_cons_zero, List.set_cons_succ]
      refine wpAnyH_take (i := 5) (oi := ?r0_o5) (v := ?r0_v5) ?r0_ho5 (by kernel_rfl) (by kernel_rfl) (by kernel_rfl) ?r0_hq5 ?r0_hy5 (by assumption) ?_
      case r0_ho5 => (conv => lhs; whnf; arg 1; whnf)
      case r0_hq5 => exact fun _ _ _ h => h
      case r0_hy5 => (refine Or.inl ⟨by rfl, ?_⟩; intro w hSw; (try dsimp only at hSw); first | (go_simp; done) | (go_simp; with_reducible rfl))
      try simp only [Act.put, List.setIfInBounds_toArray, List.set_cons_zero, List.set_cons_succ]
      refine wpAnyH_take (i := 6) (oi := ?r0_o6) (v := ?r0_v6) ?r0_ho6 (by kernel_rfl) (by kernel_rfl) (by kernel_rfl) ?r0_hq6 ?r0_hy6 (by assumption) ?_
      case r0_ho6 => (conv => lhs; whnf; arg 1; whnf)
      case r0_hq6 => exact fun _ _ _ h => h
      case r0_hy6 => (refine Or.inl ⟨by rfl, ?_⟩; intro w hSw; (try dsimp only at hSw); first | (go_simp; done) | (go_simp; with_reducible rfl))
      try simp only [Act.put, List.setIfInBounds_toArray, List.set_cons_zero, List.set_cons_succ]
      refine wpAnyH_ready (rs := [7]) (by kernel_rfl) (by simp) ?_
      refine AllReadyH.cons (o := ?r0_o7) ?r0_ho7 (fun K hK => ?_) AllReadyH.nil
      case r0_ho7 => (conv => lhs; whnf; arg 1; whnf)
      refine step_copied rfl _ _ _ _ rfl _ _ rfl rfl HRUN.out ?_
      refine hK.out _ _ ?r0_hS7 (fun hHeld7 => ?_)
      case r0_hS7 => exact trivial
      clear hK K hHeld
      try simp only [Act.put, List.setIfInBounds_toArray, List.set_cons_zero, List.set_cons_succ]
      refine wpAnyH_take (i := 8) (oi := ?r0_o8) (v := ?r0_v8) ?r0_ho8 (by kernel_rfl) (by kernel_rfl) (by kernel_rfl) ?r0_hq8 ?r0_hy8 (by assumption) ?_
      case r0_ho8 => (conv => lhs; whnf; arg 1; whnf)
      case r0_hq8 => exact fun _ _ _ h => h
      case r0_hy8 => (refine Or.inl ⟨by rfl, ?_⟩; intro w hSw; (try dsimp only at hSw); first | (go_simp; done) | (go_simp; with_reducible rfl))
      try simp only [Act.put, List.setIfInBounds_toArray, List.set_cons_zero, List.set_cons_succ]
      refine wpAnyH_take (i := 9) (oi := ?r0_o9) (v := ?r0_v9) ?r0_ho9 (by kernel_rfl) (by kernel_rfl) (by kernel_rfl) ?r0_hq9 ?r0_hy9 (by assumption) ?_
      case r0_ho9 => (conv => lhs; whnf; arg 1; whnf)
      case r0_hq9 => exact fun _ _ _ h => h
      case r0_hy9 => (refine Or.inl ⟨by rfl, ?_⟩; intro w hSw; (try dsimp only at hSw); first | (go_simp; done) | (go_simp; with_reducible rfl))
      try simp only [Act.put, List.setIfInBounds_toArray, List.set_cons_zero, List.set_cons_succ]
      refine wpAnyH_done (by kernel_rfl) ?_ _
      go_wp2
      go_roundw
      case rel => exact ⟨m + p, zs.take m ++ zs.take p ++ zs.drop (m + p), by omega, by have := HP0.out; omega, by go_num, HE.out.drew.grown HG2.out (fun g hg => by injection hg with hg; have := HG0.out; omega), by have := HP0.out; simp [HZ.out]; omega, by (
        have e1 : zs.take p = List.replicate p v := by
          have : zs.take p = (zs.take m).take p := by rw [List.take_take]; congr 1; have := HP0.out; omega
          rw [this, HT.out, List.take_replicate]; congr 1; have := HP0.out; omega
        rw [HT.out, e1, List.replicate_append_replicate, List.take_append_of_le_length (by simp), List.take_of_length_le (by simp)]), HB2.out⟩
      case measure => (have := HP0.out; simp [intOf]; omega)
    · obtain rfl : m = n := by omega
      have e : zs = List.replicate m v := by rw [← HT.out, List.take_of_length_le (by rw [HZ.out]; exact Nat.le_refl _)]
      subst e
      go_wp2
      go_ret
      exact ⟨_, rfl, ⟨by simp, by simp only [maxLen]; omega, .inr ⟨g0, [], rfl, by rw [HG0.out]; exact Nat.le_refl _, HB.out, by simp⟩⟩, HE.out⟩

set_option maxHeartbeats 4000000 in
theorem repeatFrame_c (A : Option Addr) (v : FrameD) (n : Nat) (w : World) (hx : Rd w A [v]) (h1 : 1 ≤ n) (h2 : n ≤ 16) :
    Calls Tryd.prog 75 #[.slice A 1 1, .int .i64 (n : Int)] w
    fun r w' => ∃ A', r = .returned (.slice A' n n) ∧ Fr 99 w' w.heap.size A' n (List.replicate n v) ∧ Ex w w' := by
  have hmk := make_rec (P := Tryd.prog) (α := FrameD) 23 99 40 ⟨false, ⟨0, 0⟩, 0, 0⟩ _ Tryd.underlying23 infoMFrame rfl n (by omega) (by omega)
  have hsize : (Tryd.prog.info? 99).map (·.size) = some (sz FrameD) := by kernel_rfl
  have HX := Lib.hid hx
  obtain ⟨b0, o0, hA, hb0, hc0⟩ := hx (by simp)
  subst hA
  clear hx
  have HB0 : Hid (Bk 99 (w.alloc (.cells (flat (List.replicate n (⟨false, ⟨0, 0⟩, 0, 0⟩ : FrameD))).toArray 99)) w.heap.size (List.replicate n (⟨false, ⟨0, 0⟩, 0, 0⟩ : FrameD)) []) := Lib.hid (Bk.new _ _ _)
  have hln : (List.replicate n (⟨false, ⟨0, 0⟩, 0, 0⟩ : FrameD)).length = n := List.length_replicate
  obtain ⟨w2, hrun, hbk, hgr⟩ := copied (α := FrameD) HB0.out 23 23 3 Tryd.underlying23 hsize ⟨b0, o0, none⟩ [v] (Rd.news (HX.out.alloc _)) 0 1 n n 1 1 (by simp [Nat.min_def]; omega) rfl (by rw [hln]; omega)
  have HBK : Hid (Bk 99 w2 w.heap.size ((List.replicate n (⟨false, ⟨0, 0⟩, 0, 0⟩ : FrameD)).take 0 ++ [v] ++ (List.replicate n (⟨false, ⟨0, 0⟩, 0, 0⟩ : FrameD)).drop (0 + 1)) []) := Lib.hid hbk
  have HGR := Lib.hid hgr
  rw [Nat.zero_mul] at hrun
  have HZL : Hid (((List.replicate n (⟨false, ⟨0, 0⟩, 0, 0⟩ : FrameD)).take 0 ++ [v] ++ (List.replicate n (⟨false, ⟨0, 0⟩, 0, 0⟩ : FrameD)).drop (0 + 1)).length = n) := Lib.hid (by simp; omega)
  have HZT : Hid (((List.replicate n (⟨false, ⟨0, 0⟩, 0, 0⟩ : FrameD)).take 0 ++ [v] ++ (List.replicate n (⟨false, ⟨0, 0⟩, 0, 0⟩ : FrameD)).drop (0 + 1)).take 1 = List.replicate 1 v) := Lib.hid (by simp)
  have HE2 : Hid (Ex w w2) := Lib.hid (((Ex.refl w).alloc _).grown HGR.out (fun g hg => by injection hg with hg; omega))
  generalize (List.replicate n (⟨false, ⟨0, 0⟩, 0, 0⟩ : FrameD)).take 0 ++ [v] ++ (List.replicate n (⟨false, ⟨0, 0⟩, 0, 0⟩ : FrameD)).drop (0 + 1) = zs0 at HBK HZL HZT
  clear hbk hgr HB0 hln HGR
  go_enter Tryd.func75, Tryd.ntmps75
  go_wp2_with fail
  refine (mul_c n h1 h2 _).mono ?_
  rintro r w1 ⟨rfl, rfl⟩
  go_wp2_with fail
  obtain ⟨g0, hg0⟩ : ∃ g0, g0 = w.heap.size := ⟨_, rfl⟩
  rw [← hg0] at HBK
  try rw [← hg0]
  have HG0 : Hid (g0 = w.heap.size) := Lib.hid hg0
  clear hg0 hrun hmk
  go_loopw [8] (fun q wr => ∃ (m : Nat) (zs : List FrameD), 1 ≤ m ∧ m ≤ n ∧ q = .int .i64 m ∧ Ex w wr ∧ zs.length = n ∧ zs.take m = List.replicate m v ∧ Bk 99 wr g0 zs []) (fun q _ => n - (intOf q).toNat)
  case atStart => exact ⟨1, zs0, Nat.le_refl _, h1, rfl, HE2.out, HZL.out, HZT.out, HBK.out⟩
  case round =>
    obtain ⟨m, zs, hm1, hm2, rfl, hex, hzl, hzt, hbk⟩ := hrel
    have HE := Lib.hid hex
    have HZ := Lib.hid hzl
    have HT := Lib.hid hzt
    have HB := Lib.hid hbk
    clear hex hzl hzt hbk
    by_cases hlt : m < n
    · obtain ⟨p, hp⟩ : ∃ p, p = Nat.min m (n - m) := ⟨_, rfl⟩
      have hp0 : p ≤ m ∧ p ≤ n - m ∧ (p = m ∨ p = n - m) := by subst hp; simp [Nat.min_def]; split <;> omega
      have hpl : (zs.take p).length = p := by rw [List.length_take, HZ.out]; omega
      have hmp : m + p ≤ zs.length := by rw [HZ.out]; omega
      obtain ⟨w2, hrun, hbk2, hgr2⟩ := copied (α := FrameD) (Bk.drew HB.out) 23 23 3 Tryd.underlying23 hsize ⟨g0, 0, none⟩ (zs.take p) (Rd.news ((Bk.drew HB.out).rd.take p)) m p (n - m) (n - m) m n hp hpl hmp
      skip
      have HRUN := Lib.hid hrun
      have HB2 := Lib.hid hbk2
      have HG2 := Lib.hid hgr2
      have hmn0 : (0 : Int) ≤ (m : Int) := by omega
      have hmne : ¬ n = m := by omega
      have hmn1 : (m : Int) ≤ (n : Int) := by omega
      have HP0 := Lib.hid hp0
      have hp16 : p ≤ 16 := by omega
      have hwr : IntKind.i64.wrap ((m : Int) + (p : Int)) = (m : Int) + (p : Int) := IntWalk.i64_in _ (by omega)
      clear hrun hbk2 hgr2 hp hpl hmp hp0
      go_wp2_with fail
      refine wp_region_held_drew (S := (fun _ => True)) (by kernel_rfl) ?r1_hS0 (fun hHeld => ?_)
      case r1_hS0 => exact trivial
      refine wpAnyH_take (i := 0) (oi := ?r1_o0) (v := ?r1_v0) ?r1_ho0 (by kernel_rfl) (by kernel_rfl) (by kernel_rfl) ?r1_hq0 ?r1_hy0 (by assumption) ?_
      case r1_ho0 => (conv => lhs; whnf; arg 1; whnf)
      case r1_hq0 => exact fun _ _ _ h => h
      case r1_hy0 => (refine Or.inl ⟨by rfl, ?_⟩; intro w hSw; (try dsimp only at hSw); first | (go_simp; done) | (go_simp; with_reducible rfl))
      try simp only [Act.put, List.setIfInBounds_toArray, List.set_cons_zero, List.set_cons_succ]
      refine wpAnyH_take (i := 1) (oi := ?r1_o1) (v := ?r1_v1) ?r1_ho1 (by kernel_rfl) (by kernel_rfl) (by kernel_rfl) ?r1_hq1 ?r1_hy1 (by assumption) ?_
      case r1_ho1 => (conv => lhs; whnf; arg 1; whnf)
      case r1_hq1 => exact fun _ _ _ h => h
      case r1_hy1 => (refine Or.inl ⟨by rfl, ?_⟩; intro w hSw; (try dsimp only at hSw); first | (go_simp; done) | (go_simp; with_reducible rfl))
      try simp only [Act.put, List.setIfInBounds_toArray, List.set_cons_zero, List.set_cons_succ]
      refine wpAnyH_take (i := 2) (oi := ?r1_o2) (v := ?r1_v2) ?r1_ho2 (by kernel_rfl) (by kernel_rfl) (by kernel_rfl) ?r1_hq2 ?r1_hy2 (by assumption) ?_
      case r1_ho2 => (conv => lhs; whnf; arg 1; whnf)
      case r1_hq2 => exact fun _ _ _ h => h
      case r1_hy2 => (refine Or.inl ⟨by rfl, ?_⟩; intro w hSw; (try dsimp only at hSw); first | (go_simp; done) | (go_simp; with_reducible rfl))
      try simp only [Act.put, List.setIfInBounds_toArray, List.set_cons_zero, List.set_cons_succ]
      refine wpAnyH_take (i := 3) (oi := ?r1_o3) (v := ?r1_v3) ?r1_ho3 (by kernel_rfl) (by kernel_rfl) (by kernel_rfl) ?r1_hq3 ?r1_hy3 (by assumption) ?_
      case r1_ho3 => (conv => lhs; whnf; arg 1; whnf)
      case r1_hq3 => exact fun _ _ _ h => h
      case r1_hy3 => (refine Or.inl ⟨by rfl, ?_⟩; intro w hSw; (try dsimp only at hSw); first | (go_simp; done) | (go_simp; with_reducible rfl))
      try simp only [Act.put, List.setIfInBounds_toArray, List.set_cons_zero, List.set_cons_succ]
      refine wpAnyH_take (i := 4) (oi := ?r1_o4) (v := ?r1_v4) ?r1_ho4 (by kernel_rfl) (by kernel_rfl) (by kernel_rfl) ?r1_hq4 ?r1_hy4 (by assumption) ?_
      case r1_ho4 => (conv => lhs; whnf; arg 1; whnf)
      case r1_hq4 => exact fun _ _ _ h => h
      case r1_hy4 => (refine Or.inl ⟨by rfl, ?_⟩; intro w hSw; (try dsimp only at hSw); first | (go_simp; done) | (go_simp; with_reducible rfl))
      try simp only [Act.put, List.setIfInBounds_toArray, List.set_cons_zero, List.set_cons_succ]
      refine wpAnyH_take (i := 5) (oi := ?r1_o5) (v := ?r1_v5) ?r1_ho5 (by kernel_rfl) (by kernel_rfl) (by kernel_rfl) ?r1_hq5 ?r1_hy5 (by assumption) ?_
      case r1_ho5 => (conv => lhs; whnf; arg 1; whnf)
      case r1_hq5 => exact fun _ _ _ h => h
      case r1_hy5 => (refine Or.inl ⟨by rfl, ?_⟩; intro w hSw; (try dsimp only at hSw); first | (go_simp; done) | (go_simp; with_reducible rfl))
      try simp only [Act.put, List.setIfInBounds_toArray, List.set_cons_zero, List.set_cons_succ]
      refine wpAnyH_take (i := 6) (oi := ?r1_o6) (v := ?r1_v6) ?r1_ho6 (by kernel_rfl) (by kernel_rfl) (by kernel_rfl) ?r1_hq6 ?r1_hy6 (by assumption) ?_
      case r1_ho6 => (conv => lhs; whnf; arg 1; whnf)
      case r1_hq6 => exact fun _ _ _ h => h
      case r1_hy6 => (refine Or.inl ⟨by rfl, ?_⟩; intro w hSw; (try dsimp only at hSw); first | (go_simp; done) | (go_simp; with_reducible rfl))
      try simp only [Act.put, List.setIfInBounds_toArray, List.set_cons_zero, List.set_cons_succ]
      refine wpAnyH_ready (rs := [7]) (by kernel_rfl) (by simp) ?_
      refine AllReadyH.cons (o := ?r1_o7) ?r1_ho7 (fun K hK => ?_) AllReadyH.nil
      case r1_ho7 => (conv => lhs; whnf; arg 1; whnf)
      refine step_copied rfl _ _ _ _ rfl _ _ rfl rfl HRUN.out ?_
      refine hK.out _ _ ?r1_hS7 (fun hHeld7 => ?_)
      case r1_hS7 => exact trivial
      clear hK K hHeld
      try simp only [Act.put, List.setIfInBounds_toArray, List.set_cons_zero, List.set_cons_succ]
      refine wpAnyH_take (i := 8) (oi := ?r1_o8) (v := ?r1_v8) ?r1_ho8 (by kernel_rfl) (by kernel_rfl) (by kernel_rfl) ?r1_hq8 ?r1_hy8 (by assumption) ?_
      case r1_ho8 => (conv => lhs; whnf; arg 1; whnf)
      case r1_hq8 => exact fun _ _ _ h => h
      case r1_hy8 => (refine Or.inl ⟨by rfl, ?_⟩; intro w hSw; (try dsimp only at hSw); first | (go_simp; done) | (go_simp; with_reducible rfl))
      try simp only [Act.put, List.setIfInBounds_toArray, List.set_cons_zero, List.set_cons_succ]
      refine wpAnyH_take (i := 9) (oi := ?r1_o9) (v := ?r1_v9) ?r1_ho9 (by kernel_rfl) (by kernel_rfl) (by kernel_rfl) ?r1_hq9 ?r1_hy9 (by assumption) ?_
      case r1_ho9 => (conv => lhs; whnf; arg 1; whnf)
      case r1_hq9 => exact fun _ _ _ h => h
      case r1_hy9 => (refine Or.inl ⟨by rfl, ?_⟩; intro w hSw; (try dsimp only at hSw); first | (go_simp; done) | (go_simp; with_reducible rfl))
      try simp only [Act.put, List.setIfInBounds_toArray, List.set_cons_zero, List.set_cons_succ]
      refine wpAnyH_done (by kernel_rfl) ?_ _
      go_wp2
      go_roundw
      case rel => exact ⟨m + p, zs.take m ++ zs.take p ++ zs.drop (m + p), by omega, by have := HP0.out; omega, by go_num, HE.out.drew.grown HG2.out (fun g hg => by injection hg with hg; have := HG0.out; omega), by have := HP0.out; simp [HZ.out]; omega, by (
        have e1 : zs.take p = List.replicate p v := by
          have : zs.take p = (zs.take m).take p := by rw [List.take_take]; congr 1; have := HP0.out; omega
          rw [this, HT.out, List.take_replicate]; congr 1; have := HP0.out; omega
        rw [HT.out, e1, List.replicate_append_replicate, List.take_append_of_le_length (by simp), List.take_of_length_le (by simp)]), HB2.out⟩
      case measure => (have := HP0.out; simp [intOf]; omega)
    · obtain rfl : m = n := by omega
      have e : zs = List.replicate m v := by rw [← HT.out, List.take_of_length_le (by rw [HZ.out]; exact Nat.le_refl _)]
      subst e
      go_wp2
      go_ret
      exact ⟨_, rfl, ⟨by simp, by simp only [maxLen]; omega, .inr ⟨g0, [], rfl, by rw [HG0.out]; exact Nat.le_refl _, HB.out, by simp⟩⟩, HE.out⟩
end Go.Proofs.YtkoegcalfibinaaDoor
