/- Contracts of KeyFor and its drawing; the walks of the laws FnExactKeyFor and FnKeyFor. -/
import Derived.Test.YtcklfjmddifmlaaRd
import Derived.Deep.RegionHeld3
namespace Go.Proofs.Ytcklfjmddifmlaa
open Go.ChangeShapes Go.WideShapes Go.ChangeAt Go.RowKit
open Rec (sz cs)
set_option linter.unusedVariables false
set_option maxRecDepth 100000

def keyFor (s p : Int) : KeyD := if 128 ≤ p then ⟨0, p⟩ else ⟨s, p⟩

set_option maxHeartbeats 400000 in
theorem keyForI_c (s p : Int) (w : World) : Calls Try.prog 28 #[.int .i64 s, .int .i64 p] w fun r w' => r = .returned (.agg #[.int .i64 (keyFor s p).space, .int .i64 (keyFor s p).page]) ∧ Ex w w' := by
  by_cases h : 128 ≤ p
  · have e : keyFor s p = ⟨0, p⟩ := if_pos h
    rw [e]
    clear e
    go_enter Try.func28, Try.ntmps28
    go_wp2
    exact bodyPost_ret (v := .agg #[.int .i64 0, .int .i64 p]) (by simp [results, Try.results28, go_sem]) rfl ⟨rfl, (Ex.refl _).alloc _⟩
  · have e : keyFor s p = ⟨s, p⟩ := if_neg h
    rw [e]
    clear e
    go_enter Try.func28, Try.ntmps28
    go_wp2
    exact bodyPost_ret (v := .agg #[.int .i64 s, .int .i64 p]) (by simp [results, Try.results28, go_sem]) rfl ⟨rfl, (Ex.refl _).alloc _⟩

set_option maxHeartbeats 400000 in
theorem keyForS_c (s p : Int) (w : World) : Calls Try.prog 27 #[.int .i64 s, .int .i64 p] w fun r w' => r = .returned (.agg #[.int .i64 (keyFor s p).space, .int .i64 (keyFor s p).page]) ∧ Ex w w' := by
  by_cases h : 128 ≤ p
  · have e : keyFor s p = ⟨0, p⟩ := if_pos h
    rw [e]
    clear e
    go_enter Try.func27, Try.ntmps27
    go_wp2
    exact bodyPost_ret (v := .agg #[.int .i64 0, .int .i64 p]) (by simp [results, Try.results27, go_sem]) rfl ⟨rfl, (Ex.refl _).alloc _⟩
  · have e : keyFor s p = ⟨s, p⟩ := if_neg h
    rw [e]
    clear e
    go_enter Try.func27, Try.ntmps27
    go_wp2
    exact bodyPost_ret (v := .agg #[.int .i64 s, .int .i64 p]) (by simp [results, Try.results27, go_sem]) rfl ⟨rfl, (Ex.refl _).alloc _⟩

set_option maxHeartbeats 1000000 in
theorem eqKey_c (x y : KeyD) (w : World) : Calls Try.prog 29 #[.agg #[.int .i64 x.space, .int .i64 x.page], .agg #[.int .i64 y.space, .int .i64 y.page]] w
   fun r w' => r = .returned (.bool (eqB x y)) ∧ Ex w w' := by
  obtain ⟨a, b⟩ := x
  obtain ⟨c, d⟩ := y
  go_enter Try.func29, Try.ntmps29
  go_wp2
  all_goals
    go_ret
    refine ⟨ret_bool ?_, ((Ex.refl _).alloc _).alloc _⟩
    simp only [eqB]; simp_all

set_option maxHeartbeats 1000000 in
theorem walk_FnExactKeyFor (s p : Int) (w : World) : Calls Try.prog 3 #[.int .i64 s, .int .i64 p] w fun r w' => r = .returned (.bool true) ∧ Ex w w' := by
  have C1 := Lib.hid (keyForS_c s p)
  have C2 := Lib.hid (keyForI_c s p)
  generalize keyFor s p = k at C1 C2
  go_enter Try.func3, Try.ntmps3
  go_wp2_with fail
  refine (C1.out _).mono ?_; rintro r w1 ⟨rfl, hb1⟩
  have s1 : w.heap.size ≤ w1.heap.size := by have := hb1.size; first | omega | (simp at this; omega)
  have E1 : Hid (Ex w w1) := Lib.hid (by first | exact (Ex.refl w).trans hb1 | exact ((Ex.refl w).alloc _).trans hb1 | exact (((Ex.refl w).alloc _).alloc _).trans hb1 | exact ((((Ex.refl w).alloc _).alloc _).alloc _).trans hb1 | exact (((((Ex.refl w).alloc _).alloc _).alloc _).alloc _).trans hb1 | exact ((((((Ex.refl w).alloc _).alloc _).alloc _).alloc _).alloc _).trans hb1 | exact (((((((Ex.refl w).alloc _).alloc _).alloc _).alloc _).alloc _).alloc _).trans hb1)
  have HB1 := Lib.hid hb1; clear hb1
  go_wp2_with fail
  refine (C2.out _).mono ?_; rintro r w2 ⟨rfl, hb2⟩
  have s2 : w1.heap.size ≤ w2.heap.size := by have := hb2.size; first | omega | (simp at this; omega)
  have E2 : Hid (Ex w w2) := Lib.hid (by first | exact E1.out.trans hb2 | exact (E1.out.alloc _).trans hb2 | exact ((E1.out.alloc _).alloc _).trans hb2 | exact (((E1.out.alloc _).alloc _).alloc _).trans hb2 | exact ((((E1.out.alloc _).alloc _).alloc _).alloc _).trans hb2 | exact (((((E1.out.alloc _).alloc _).alloc _).alloc _).alloc _).trans hb2 | exact ((((((E1.out.alloc _).alloc _).alloc _).alloc _).alloc _).alloc _).trans hb2)
  have KW : Hid (Blk w2 (w1.heap.size) 23 [.int .i64 k.space, .int .i64 k.page]) := Lib.hid (by first | exact (Blk.new_at _ _ _ (by simp)).ex hb2 | exact ((Blk.new_at _ _ _ (by simp)).alloc _).ex hb2 | exact (((Blk.new_at _ _ _ (by simp)).alloc _).alloc _).ex hb2 | exact ((((Blk.new_at _ _ _ (by simp)).alloc _).alloc _).alloc _).ex hb2 | exact (((((Blk.new_at _ _ _ (by simp)).alloc _).alloc _).alloc _).alloc _).ex hb2)
  obtain ⟨qW0, qW1⟩ := KW.out.c2
  have lW := KW.out.lt
  have HB2 := Lib.hid hb2; clear hb2
  go_wp2_with fail
  refine (eqKey_c k k _).mono ?_; rintro r w3 ⟨rfl, hb3⟩
  have s3 : w2.heap.size ≤ w3.heap.size := by have := hb3.size; first | omega | (simp at this; omega)
  have E3 : Hid (Ex w w3) := Lib.hid (by first | exact E2.out.trans hb3 | exact (E2.out.alloc _).trans hb3 | exact ((E2.out.alloc _).alloc _).trans hb3 | exact (((E2.out.alloc _).alloc _).alloc _).trans hb3 | exact ((((E2.out.alloc _).alloc _).alloc _).alloc _).trans hb3 | exact (((((E2.out.alloc _).alloc _).alloc _).alloc _).alloc _).trans hb3 | exact ((((((E2.out.alloc _).alloc _).alloc _).alloc _).alloc _).alloc _).trans hb3)
  clear qW0 qW1 lW
  replace KW : Hid (Blk w3 (w1.heap.size) 23 [.int .i64 k.space, .int .i64 k.page]) := Lib.hid (by first | exact KW.out.ex hb3 | exact (KW.out.alloc _).ex hb3 | exact ((KW.out.alloc _).alloc _).ex hb3 | exact (((KW.out.alloc _).alloc _).alloc _).ex hb3 | exact ((((KW.out.alloc _).alloc _).alloc _).alloc _).ex hb3)
  obtain ⟨qW0, qW1⟩ := KW.out.c2
  have lW := KW.out.lt
  have HB3 := Lib.hid hb3; clear hb3
  rw [eqB_self]
  go_wp2
  go_ret
  exact ⟨rfl, E3.out⟩

def SomePair (w : World) (e : Ending) (w' : World) : Prop := ∃ s p : Int, e = .returned (.tuple #[.int .i64 s, .int .i64 p]) ∧ Ex w w'

set_option maxHeartbeats 1000000 in
theorem drawKeyFor_c (A : Option Addr) (c : Nat) (bs : List ByteD) (w : World) (hx : Rd w A bs) (hb : Bytes bs) (hn : bs.length ≤ 1048576) (hc : bs.length ≤ c) (hcm : c ≤ maxLen) :
    Calls Try.prog 30 #[.slice A bs.length c] w (SomePair w) := by
  have C1 := Lib.hid (l12Open_c A c bs w hx hb hn hc hcm)
  generalize bs.length = n at C1 hn hc
  clear hx hb hn hc hcm
  go_enter Try.func30, Try.ntmps30
  go_wp2_with fail
  refine (C1.out).mono ?_
  rintro r w1 ⟨g, rfl, hr, hg, hb1⟩
  have hgl := hr.lt
  have HR := Lib.hid hr
  have HB1 := Lib.hid hb1
  clear hr hb1 C1
  go_wp2_with fail
  refine (num_c g 0 _ _ _ [0, 1, 5, 15, -1] _ (HR.out.alloc _) (Rd.lits _ _ _) (by simp) (by simp) (by omega) (by omega)).mono ?_
  rintro r w2 ⟨v, rfl, hv, hr2, hg2⟩
  have s2 : w1.heap.size < w2.heap.size := by have := hg2.size; simp at this; omega
  have HR2 := Lib.hid hr2
  have E2 : Hid (Ex w w2) := Lib.hid ((HB1.out.alloc _).grown hg2 (fun b hb => by injection hb with hb; omega))
  clear hv hr2 hg2
  go_wp2_with fail
  refine (num_c g 1 _ _ _ [0, 127, 128, 255, 3, 200] _ (HR2.out.alloc _) (Rd.lits _ _ _) (by simp) (by simp) (by omega) (by omega)).mono ?_
  rintro r w3 ⟨v', rfl, hv', hr3, hg3⟩
  have E3 : Hid (Ex w w3) := Lib.hid ((E2.out.alloc _).grown hg3 (fun b hb => by injection hb with hb; omega))
  clear hv' hr3 hg3
  go_wp2
  go_ret2
  exact ⟨v, v', rfl, E3.out⟩

theorem fieldsKey : Try.prog.underlying 23 = some (.struct (Try.prog.fieldsOf 23)) := by kernel_rfl
theorem heldKey_ : Try.prog.stoodInHeld 23 = false := by kernel_rfl
theorem guardKey : Try.prog.eqGuardType Try.prog.depth 23 = false := by kernel_rfl
theorem eqIn_key (x y : KeyD) (w : World) : (Op.equalIn 10000 23 (.agg #[.int .i64 x.space, .int .i64 x.page]) (.agg #[.int .i64 y.space, .int .i64 y.page])).run Try.prog w = .ok (eqB x y) w := by
  obtain ⟨a, b⟩ := x
  obtain ⟨c, d⟩ := y
  rw [run_equalIn_agg w 9999 _ _ _ fieldsKey heldKey_]
  simp [go_sem, Try.underlying23]
  by_cases h1 : a = c <;> by_cases h2 : b = d <;> simp [eqB, h1, h2]
theorem neq_key (x y : KeyD) (w : World) : (binOp .neq 23 (.agg #[.int .i64 x.space, .int .i64 x.page]) (.agg #[.int .i64 y.space, .int .i64 y.page])).run Try.prog w = .ok (.bool (!eqB x y)) w := by
  rw [run_neq_struct, eqIn_key]; rfl
theorem eql_key (x y : KeyD) (w : World) : (binOp .eql 23 (.agg #[.int .i64 x.space, .int .i64 x.page]) (.agg #[.int .i64 y.space, .int .i64 y.page])).run Try.prog w = .ok (.bool (eqB x y)) w := by
  rw [run_eql_struct, eqIn_key]; rfl
theorem neq_key_self (a b : Int) (w : World) : (binOp .neq 23 (.agg #[.int .i64 a, .int .i64 b]) (.agg #[.int .i64 a, .int .i64 b])).run Try.prog w = .ok (.bool false) w := by
  have := neq_key ⟨a, b⟩ ⟨a, b⟩ w
  rwa [eqB_self] at this
theorem eql_key_self (a b : Int) (w : World) : (binOp .eql 23 (.agg #[.int .i64 a, .int .i64 b]) (.agg #[.int .i64 a, .int .i64 b])).run Try.prog w = .ok (.bool true) w := by
  have := eql_key ⟨a, b⟩ ⟨a, b⟩ w
  rwa [eqB_self] at this

set_option maxHeartbeats 1000000 in
theorem walk_FnKeyFor (A : Option Addr) (n c : Nat) (bs : List ByteD) (w : World) (hr : Rd w A bs) (hc : Bytes bs ∧ bs.length = n ∧ n ≤ c ∧ c ≤ maxLen) :
    Calls Try.prog 4 #[.slice A n c] w fun r w' => r = .returned (.bool true) ∧ Ex w w' := by
  obtain ⟨hb, rfl, hnc, hcm⟩ := hc
  by_cases hbig : 1048576 < bs.length
  · have hbig' : (1048576 : Int) < (bs.length : Int) := by omega
    unfold maxLen at hcm
    generalize bs.length = n at *
    go_enter Try.func4, Try.ntmps4
    go_wp2
    go_ret
    exact ⟨rfl, Ex.refl _⟩
  have hsm : ¬ (1048576 : Int) < (bs.length : Int) := by omega
  have C1 := Lib.hid (drawKeyFor_c A c bs w hr hb (by omega) hnc hcm)
  have hcm' := hcm
  unfold maxLen at hcm'
  generalize bs.length = n at *
  clear hr hb hcm
  go_enter Try.func4, Try.ntmps4
  go_wp2_with fail
  refine C1.out.mono ?_
  rintro r w1 ⟨s, p, rfl, hb1⟩
  have E1 := Lib.hid hb1
  clear hb1 C1
  by_cases hp : 128 ≤ p
  · have e1 : keyFor s p = ⟨0, p⟩ := if_pos hp
    have e2 : keyFor 7 p = ⟨0, p⟩ := if_pos hp
    have C2 := Lib.hid (keyForI_c s p)
    have C3 := Lib.hid (keyForS_c s p)
    have C4 := Lib.hid (keyForI_c 7 p)
    rw [e1] at C2 C3
    rw [e2] at C4
    dsimp only at C2 C3 C4
    clear e1 e2
    go_wp2_with fail
    refine (C2.out _).mono ?_
    rintro r w2 ⟨rfl, hb2⟩
    have E2 := Lib.hid (E1.out.trans hb2)
    clear hb2
    have hns := neq_key_self 0 p
    have hes := eql_key_self 0 p
    have hgd := guardKey
    have hpp : (p != p) = false := by simp
    have h00 : ((0 : Int) == 0) = true := rfl
    have K0 := Blk.new w2 23 [.int .i64 0, .int .i64 p]
    go_wp2_with fail
    have E2a := Lib.hid (E2.out.alloc (.cells #[.int .i64 0, .int .i64 p] 23))
    obtain ⟨wa, hwa⟩ : ∃ wa : World, wa = w2.alloc (.cells #[.int .i64 0, .int .i64 p] 23) := ⟨_, rfl⟩
    obtain ⟨gk, hgk⟩ : ∃ gk : Nat, gk = w2.heap.size := ⟨_, rfl⟩
    have K1 : Hid (Blk wa gk 23 [.int .i64 0, .int .i64 p]) := Lib.hid (by rw [hwa, hgk]; exact K0)
    have E3 : Hid (Ex w wa) := Lib.hid (by rw [hwa]; exact E2a.out)
    rw [← hwa, ← hgk]
    clear hwa hgk K0 E2a E2
    obtain ⟨q0, q1⟩ := K1.out.c2
    have lk := K1.out.lt
    go_region_held3 (fun w' => w'.cell? ⟨gk, 0, none⟩ = some (.int .i64 0) ∧ w'.cell? ⟨gk, 1, none⟩ = some (.int .i64 p)) (first | exact K1.out.c2 | exact (Blk.ex (Blk.drew K1.out) hb3).c2) (first | (go_at_call 27; (with_reducible refine (C3.out _).mono ?_); rintro r w3 ⟨rfl, hb3⟩))
    rename_i hHeld
    clear hHeld q0 q1 lk
    have K3 : Hid (Blk w3 gk 23 [.int .i64 0, .int .i64 p]) := Lib.hid (Blk.ex (Blk.drew K1.out) hb3)
    have E4 : Hid (Ex w w3) := Lib.hid (E3.out.drew.trans hb3)
    clear hb3
    obtain ⟨q0, q1⟩ := K3.out.c2
    have lk := K3.out.lt
    go_wp2_with fail
    go_region_held3 (fun w' => w'.cell? ⟨gk, 0, none⟩ = some (.int .i64 0) ∧ w'.cell? ⟨gk, 1, none⟩ = some (.int .i64 p)) (first | exact K3.out.c2 | exact (Blk.ex (Blk.drew K3.out) hb4).c2) (first | (go_at_call 28; (with_reducible refine (C4.out _).mono ?_); rintro r w4 ⟨rfl, hb4⟩))
    have E5 : Hid (Ex w w4) := Lib.hid (E4.out.drew.trans hb4)
    go_wp2
    go_ret
    exact ⟨rfl, E5.out⟩
  · have e1 : keyFor s p = ⟨s, p⟩ := if_neg hp
    have C2 := Lib.hid (keyForI_c s p)
    have C3 := Lib.hid (keyForS_c s p)
    rw [e1] at C2 C3
    dsimp only at C2 C3
    clear e1
    go_wp2_with fail
    refine (C2.out _).mono ?_
    rintro r w2 ⟨rfl, hb2⟩
    have E2 := Lib.hid (E1.out.trans hb2)
    clear hb2
    have hns := neq_key_self s p
    have hgd := guardKey
    have hpp : (p != p) = false := by simp
    have hss : (s == s) = true := by simp
    have K0 := Blk.new w2 23 [.int .i64 s, .int .i64 p]
    go_wp2_with fail
    have E2a := Lib.hid (E2.out.alloc (.cells #[.int .i64 s, .int .i64 p] 23))
    obtain ⟨wa, hwa⟩ : ∃ wa : World, wa = w2.alloc (.cells #[.int .i64 s, .int .i64 p] 23) := ⟨_, rfl⟩
    obtain ⟨gk, hgk⟩ : ∃ gk : Nat, gk = w2.heap.size := ⟨_, rfl⟩
    have K1 : Hid (Blk wa gk 23 [.int .i64 s, .int .i64 p]) := Lib.hid (by rw [hwa, hgk]; exact K0)
    have E3 : Hid (Ex w wa) := Lib.hid (by rw [hwa]; exact E2a.out)
    rw [← hwa, ← hgk]
    clear hwa hgk K0 E2a E2
    obtain ⟨q0, q1⟩ := K1.out.c2
    have lk := K1.out.lt
    go_region_held3 (fun w' => w'.cell? ⟨gk, 0, none⟩ = some (.int .i64 s) ∧ w'.cell? ⟨gk, 1, none⟩ = some (.int .i64 p)) (first | exact K1.out.c2 | exact (Blk.ex (Blk.drew K1.out) hb3).c2) (first | (go_at_call 27; (with_reducible refine (C3.out _).mono ?_); rintro r w3 ⟨rfl, hb3⟩))
    rename_i hHeld
    clear hHeld q0 q1 lk
    have K3 : Hid (Blk w3 gk 23 [.int .i64 s, .int .i64 p]) := Lib.hid (Blk.ex (Blk.drew K1.out) hb3)
    have E4 : Hid (Ex w w3) := Lib.hid (E3.out.drew.trans hb3)
    clear hb3
    obtain ⟨q0, q1⟩ := K3.out.c2
    have lk := K3.out.lt
    go_wp2
    go_ret
    exact ⟨rfl, E4.out⟩
end Go.Proofs.Ytcklfjmddifmlaa
