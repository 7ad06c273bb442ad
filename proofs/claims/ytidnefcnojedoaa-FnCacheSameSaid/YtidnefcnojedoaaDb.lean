/- Drawn caches: l4Draw. -/
import Derived.Test.YtidnefcnojedoaaDa
import Derived.Test.YtidnefcnojedoaaCo
import Derived.Test.YtidnefcnojedoaaCt
import Derived.Deep.DeepCutAuto
namespace Go.Proofs.Ytidnefcnojedoaa
open Go.ChangeShapes Go.WideShapes Go.ChangeAt Go.RowKit
open Rec (sz cs)
set_option linter.unusedVariables false
set_option maxRecDepth 100000

/-- A cache as it is drawn. -/
def Drawn (t : CacheD) : Prop := 1 ≤ t.lines.length ∧ t.lines.length ≤ 8 ∧ ∀ (i : Nat) (x : LineD), t.lines[i]? = some x → Apart x
theorem drawn_set {t : CacheD} (h : Drawn t) {v : Nat} {x : LineD} (hx : Apart x) (hd : Int) : Drawn ⟨t.lines.set v x, hd⟩ := by
  refine ⟨by simpa using h.1, by simpa using h.2.1, fun i y hy => ?_⟩
  rcases get_set_cases hy with ⟨_, rfl, _⟩ | ⟨_, hy⟩
  · exact hx
  · exact h.2.2 i y hy
theorem drawn_new {n : Int} (h : n ∈ [3, 4, 2, 1, (8 : Int)]) : Drawn (newCache n).1 := by
  have hn : 1 ≤ n ∧ n ≤ 8 := by simp at h; omega
  unfold newCache
  rw [if_pos hn]
  refine ⟨by simp; omega, by simp; omega, fun i x hx => ?_⟩
  simp only [List.getElem?_replicate] at hx
  split at hx
  · injection hx with hx; subst hx; left; decide
  · cases hx
theorem drawn_fill {t : CacheD} {x : LineD} (h : Drawn t) (hx : Apart x) (hok : (fillLine t x).2.2 = true) : Drawn (fillLine t x).1 := by
  unfold fillLine at hok ⊢
  split at hok
  · rename_i e
    rw [if_pos e]
    exact drawn_set h hx _
  · cases hok
theorem drawn_wire {t : CacheD} {p : Int} {b : Bool} (h : Drawn t) (hok : (wireLine t p b).2 = true) : Drawn (wireLine t p b).1 := by
  unfold wireLine at hok ⊢
  split at hok
  · rename_i e
    rw [if_pos e]
    refine drawn_set h ?_ _
    have hk := inB_true.1 e.2.1
    have hx := List.getElem?_eq_getElem (l := t.lines) (i := p.toNat) (by omega)
    rw [getD_of hx]
    have q := h.2.2 _ _ hx
    exact q
  · cases hok
theorem wire_few' (t : CacheD) (p : Int) (b : Bool) (h : t.lines.length ≤ 8) : (wireLine t p b).1.lines.length ≤ 8 := by
  unfold wireLine
  split
  · simp [wireOut]; exact h
  · simp [noCache]

/-- A cache as the laws get it. -/
def Few (t : CacheD) : Prop := t.lines.length ≤ 8 ∧ ∀ (i : Nat) (x : LineD), t.lines[i]? = some x → Apart x
theorem Drawn.few {t : CacheD} (h : Drawn t) : Few t := h.2
theorem few_set {t : CacheD} (h : Few t) {v : Nat} {x : LineD} (hx : Apart x) (hd : Int) : Few ⟨t.lines.set v x, hd⟩ := by
  refine ⟨by simpa using h.1, fun i y hy => ?_⟩
  rcases get_set_cases hy with ⟨_, rfl, _⟩ | ⟨_, hy⟩
  · exact hx
  · exact h.2 i y hy
def SomeWrong (g p : Nat) (w : World) (e : Ending) (w' : World) : Prop := ∃ (t : CacheD) (A : Option Addr) (c p' : Nat), e = .returned (.agg #[.slice A t.lines.length c, .int .i64 t.hand]) ∧ Few t ∧ Fr 43 w' w.heap.size A c t.lines ∧ Rdr w' g p' ∧ p' ≤ p + 10 ∧ w.grownBy w' (some g)
def SomeDraw (g p : Nat) (w : World) (e : Ending) (w' : World) : Prop := ∃ (t : CacheD) (A : Option Addr) (c p' : Nat), e = .returned (.agg #[.slice A t.lines.length c, .int .i64 t.hand]) ∧ Drawn t ∧ Fr 43 w' w.heap.size A c t.lines ∧ Rdr w' g p' ∧ p' ≤ p + 200 ∧ w.grownBy w' (some g)

/-- What holds at the head of l4Draw's loop. -/
def DrawLoop (g gc p : Nat) (w : World) (i : Value) (wr : World) : Prop := ∃ (k : Nat) (t : CacheD) (A : Option Addr) (c p' : Nat), i = .int .i64 k ∧ k ≤ 9 ∧ Drawn t ∧ Fr 43 wr (w.heap.size + 1) A c t.lines ∧ Blk wr gc 33 [.slice A t.lines.length c, .int .i64 t.hand] ∧ Rdr wr g p' ∧ p' + 10 * k ≤ p + 150 ∧ Chg g (g + 1) w wr ∧ Blk wr w.heap.size 33 [.slice none 0 0, .int .i64 0]

/-- What one round of l4Draw fills in. -/
def DrawCut (g p' : Nat) (t : CacheD) (wr : World) (s6 s7 s8 : Value) (wx : World) : Prop := ∃ (gn : Nat) (x : LineD) (A' : Option Addr) (c' : Nat), s6 = .pointer (some ⟨gn, 0, none⟩) ∧ s7 = .int .i64 (fillLine t x).2.1 ∧ s8 = .bool (fillLine t x).2.2 ∧ Apart x ∧
  Blk wx gn 33 [.slice A' (fillLine t x).1.lines.length c', .int .i64 (fillLine t x).1.hand] ∧ Fr 43 wx wr.heap.size A' c' (fillLine t x).1.lines ∧ Rdr wx g (p' + 4) ∧ Chg g (g + 1) wr wx ∧ wr.heap.size ≤ gn ∧ (∀ b, rowOf A' c' = some b → b ≠ gn)

set_option maxHeartbeats 16000000 in
theorem l4Draw_c (g p : Nat) (w : World) (h : Rdr w g p) (hp : p ≤ 800000) : Calls Try.prog 23 #[.pointer (some ⟨g, 0, none⟩)] w (SomeDraw g p w) := by
  have lg := h.lt
  have HR0 := Lib.hid h
  clear h
  go_enter Try.func23, Try.ntmps23
  go_wp2_with fail
  refine name_calls ?_; intro v1 hv1
  have X1 : Hid (Chg (0) (0) w v1) := Lib.hid (by rw [hv1]; repeat' (first | with_reducible exact Chg.refl _ _ _ | with_reducible refine Chg.alloc ?_ _ | with_reducible refine Chg.drew ?_ | with_reducible refine Chg.set ?_ (by omega) _))
  have t1 : w.heap.size ≤ v1.heap.size := X1.out.size
  have Ev1 : Hid (Chg g (g + 1) w v1) := Lib.hid ((Chg.refl g (g + 1) w).step X1.out (by omega))
  replace HR0 := Lib.hid (HR0.out.chg X1.out (by omega))
  have L1 : Hid (Rd v1 (some ⟨w.heap.size + 1, 0, none⟩) ([3, 4, 2, 1, 8] : List Int)) := Lib.hid (by rw [hv1]; repeat' (first | exact Rd.lits _ _ _ | exact Rd.lits_at _ _ _ (by simp) | with_reducible refine Rd.alloc ?_ _))
  have KR : Hid (Blk v1 (w.heap.size) 33 [.slice none 0 0, .int .i64 0]) := Lib.hid (by rw [hv1]; repeat' (first | with_reducible exact Blk.new_at _ _ _ (by simp) | with_reducible refine Blk.alloc ?_ _ | with_reducible refine Blk.drew ?_ | with_reducible refine Blk.far ?_ (by simp; omega) _))
  have lR : w.heap.size < v1.heap.size := KR.out.lt
  clear hv1
  refine (num_c g p _ 0 _ [3, 4, 2, 1, 8] _ HR0.out L1.out (by simp) (by simp) (by omega) (by omega)).mono ?_; rintro r w1 ⟨n1, rfl, hhn1, hrd1, hb1⟩
  have Y1 : Hid (Chg (g) (g + 1) v1 w1) := Lib.hid (Chg.of_grown hb1 (fun b hb => by injection hb with hb; omega))
  have s1 : v1.heap.size ≤ w1.heap.size := Y1.out.size
  have Ew1 : Hid (Chg g (g + 1) w w1) := Lib.hid (Ev1.out.step Y1.out (by omega))
  clear hb1
  replace KR : Hid (Blk w1 (w.heap.size) 33 [.slice none 0 0, .int .i64 0]) := Lib.hid (KR.out.chg Y1.out (by omega))
  clear HR0
  have HRD1 := Lib.hid hrd1; clear hrd1
  have HHN1 := Lib.hid hhn1; clear hhn1
  obtain ⟨qR0, qR1⟩ := KR.out.c2
  have jR := KR.out.lt
  have HDN := Lib.hid (drawn_new HHN1.out)
  have C2 := Lib.hid (newCacheS_c n1)
  generalize newCache n1 = q at C2 HDN
  obtain ⟨t0, ok0⟩ := q
  dsimp only at C2 HDN
  go_wp2_with fail
  refine name_calls ?_; intro v2 hv2
  have X2 : Hid (Chg (0) (0) w1 v2) := Lib.hid (by rw [hv2]; repeat' (first | with_reducible exact Chg.refl _ _ _ | with_reducible refine Chg.alloc ?_ _ | with_reducible refine Chg.drew ?_ | with_reducible refine Chg.set ?_ (by omega) _))
  have t2 : w1.heap.size ≤ v2.heap.size := X2.out.size
  have Ev2 : Hid (Chg g (g + 1) w v2) := Lib.hid (Ew1.out.step X2.out (by omega))
  clear qR0 qR1 jR
  replace KR : Hid (Blk v2 (w.heap.size) 33 [.slice none 0 0, .int .i64 0]) := Lib.hid (KR.out.chg X2.out (by omega))
  replace HRD1 := Lib.hid (HRD1.out.chg X2.out (by omega))
  clear hv2
  refine (C2.out _).mono ?_; rintro r w2 ⟨A2, c2, rfl, hf2, hb2⟩
  have Y2 : Hid (Chg 0 0 v2 w2) := Lib.hid (Chg.of_ex hb2)
  have s2 : v2.heap.size ≤ w2.heap.size := Y2.out.size
  have Ew2 : Hid (Chg g (g + 1) w w2) := Lib.hid (Ev2.out.step Y2.out (by omega))
  clear hb2
  replace KR : Hid (Blk w2 (w.heap.size) 33 [.slice none 0 0, .int .i64 0]) := Lib.hid (KR.out.chg Y2.out (by omega))
  replace HRD1 := Lib.hid (HRD1.out.chg Y2.out (by omega))
  have HF2 := Lib.hid hf2; clear hf2
  have WHF2 := Lib.hid HF2.out.row
  obtain ⟨qR0, qR1⟩ := KR.out.c2
  have jR := KR.out.lt
  go_wp2_with fail
  refine name_calls ?_; intro v3 hv3
  have X3 : Hid (Chg (0) (0) w2 v3) := Lib.hid (by rw [hv3]; repeat' (first | with_reducible exact Chg.refl _ _ _ | with_reducible refine Chg.alloc ?_ _ | with_reducible refine Chg.drew ?_ | with_reducible refine Chg.set ?_ (by omega) _))
  have t3 : w2.heap.size ≤ v3.heap.size := X3.out.size
  have Ev3 : Hid (Chg g (g + 1) w v3) := Lib.hid (Ew2.out.step X3.out (by omega))
  clear qR0 qR1 jR
  replace KR : Hid (Blk v3 (w.heap.size) 33 [.slice none 0 0, .int .i64 0]) := Lib.hid (KR.out.chg X3.out (by omega))
  replace HF2 := Lib.hid (HF2.out.chg X3.out WHF2.out (by omega))
  replace HRD1 := Lib.hid (HRD1.out.chg X3.out (by omega))
  have L3 : Hid (Rd v3 (some ⟨w2.heap.size + 1, 0, none⟩) ([4, 3, 6, 1, 9] : List Int)) := Lib.hid (by rw [hv3]; repeat' (first | exact Rd.lits _ _ _ | exact Rd.lits_at _ _ _ (by simp) | with_reducible refine Rd.alloc ?_ _))
  have KC : Hid (Blk v3 (w2.heap.size) 33 [.slice A2 t0.lines.length c2, .int .i64 t0.hand]) := Lib.hid (by rw [hv3]; repeat' (first | with_reducible exact Blk.new_at _ _ _ (by simp) | with_reducible refine Blk.alloc ?_ _ | with_reducible refine Blk.drew ?_ | with_reducible refine Blk.far ?_ (by simp; omega) _))
  have lC : w2.heap.size < v3.heap.size := KC.out.lt
  clear hv3
  refine (num_c g (p + 1) _ 0 _ [4, 3, 6, 1, 9] _ HRD1.out L3.out (by simp) (by simp) (by omega) (by omega)).mono ?_; rintro r w3 ⟨n3, rfl, hhn3, hrd3, hb3⟩
  have Y3 : Hid (Chg (g) (g + 1) v3 w3) := Lib.hid (Chg.of_grown hb3 (fun b hb => by injection hb with hb; omega))
  have s3 : v3.heap.size ≤ w3.heap.size := Y3.out.size
  have Ew3 : Hid (Chg g (g + 1) w w3) := Lib.hid (Ev3.out.step Y3.out (by omega))
  clear hb3
  replace KR : Hid (Blk w3 (w.heap.size) 33 [.slice none 0 0, .int .i64 0]) := Lib.hid (KR.out.chg Y3.out (by omega))
  replace KC : Hid (Blk w3 (w2.heap.size) 33 [.slice A2 t0.lines.length c2, .int .i64 t0.hand]) := Lib.hid (KC.out.chg Y3.out (by omega))
  replace HF2 := Lib.hid (HF2.out.chg Y3.out WHF2.out (by omega))
  clear HRD1
  have HRD3 := Lib.hid hrd3; clear hrd3
  have HHN3 := Lib.hid hhn3; clear hhn3
  obtain ⟨qR0, qR1⟩ := KR.out.c2
  have jR := KR.out.lt
  obtain ⟨qC0, qC1⟩ := KC.out.c2
  have jC := KC.out.lt
  have hn3 : ∃ k : Nat, n3 = (k : Int) ∧ k ≤ 9 := ⟨n3.toNat, by have := HHN3.out; simp at this; omega, by have := HHN3.out; simp at this; omega⟩
  obtain ⟨k3, rfl, hk3⟩ := hn3
  obtain ⟨gc, hgc⟩ : ∃ gc, gc = w2.heap.size := ⟨_, rfl⟩
  rw [← hgc] at KC lC jC qC0 qC1 ⊢
  have hgcw : w.heap.size < gc := by omega
  have hgcg : ¬ gc = g := by omega
  have HST : Hid (DrawLoop g gc p w (.int .i64 k3) w3) := Lib.hid ⟨k3, t0, A2, c2, p + 1 + 1, rfl, hk3, HDN.out, HF2.out.mono (by omega), KC.out, HRD3.out, by omega, Ew3.out, KR.out⟩
  clear hgc HHN1 HHN3 C2 qC0 qC1 jC lC KC qR0 qR1 jR KR HF2 WHF2 HRD3 HDN
  go_wp2
  go_loopw [5] (fun i wr => DrawLoop g gc p w i wr) (fun i _ => (intOf i).toNat)
  case atStart => exact HST.out
  case round =>
    clear HST
    obtain ⟨k, t, A, c, p', rfl, hk, hd, hf, hkc, hrd, hpp, hch, hkr⟩ := hrel
    have HD := Lib.hid hd
    have HF := Lib.hid hf
    have KC := Lib.hid hkc
    have HRD := Lib.hid hrd
    have Ewr := Lib.hid hch
    have KR := Lib.hid hkr
    have WHF := Lib.hid HF.out.row
    have hn : t.lines.length ≤ 1048576 := by have := hd.2.1; omega
    have hle := HF.out.le
    have hca := HF.out.cap
    have hsz := Ewr.out.size
    clear hd hf hkc hrd hch hkr
    obtain ⟨qC0, qC1⟩ := KC.out.c2
    have jC := KC.out.lt
    obtain ⟨qR0, qR1⟩ := KR.out.c2
    have jR := KR.out.lt
    have hgcr : gc < wr.heap.size := KC.out.lt
    by_cases hlt : 0 < k
    · have hlt' : (0 : Int) < (k : Int) := by omega
      have RDA : Hid (∀ w1 w2, Chg 0 0 wr w1 → w1.grownBy w2 (some g) → Rd w2 A t.lines) := Lib.hid (fun w1 w2 h1 h2 => (Fr.chg (Fr.chg HF.out h1 WHF.out (by omega)) (Chg.of_grown (lo := g) (hi := g + 1) h2 (fun b hb => by injection hb with hb; omega)) WHF.out (by omega)).rd)
      have hne1 : some gc ≠ some g := fun e => by injection e with e; omega
      have hne2 : some wr.heap.size ≠ some g := fun e => by injection e with e; omega
      have hp4 : p' ≤ 900000 := by omega
      have HZ : Hid (∀ o : Obj, Chg 0 0 wr (wr.drew.alloc o)) := Lib.hid (fun o => (Chg.refl _ _ wr).drew.alloc o)
      have HZ0 : Hid (Chg 0 0 wr wr.drew) := Lib.hid (Chg.refl _ _ wr).drew
      go_upto_region 5 with fail
      go_cut [6, 7, 8] (fun s6 s7 s8 wx => DrawCut g p' t wr s6 s7 s8 wx)
      case first =>
        go_region_held3 (fun w' => (w'.cell? ⟨gc, 0, none⟩ = some (.slice A t.lines.length c) ∧ w'.cell? ⟨gc, 1, none⟩ = some (.int .i64 t.hand))) (first | exact KC.out.c2 | exact (Blk.drew KC.out).c2 | exact ((Blk.drew KC.out).alloc _).c2 | exact hka.c2 | exact (hka.alloc _).c2 | exact (Blk.ex hka hbb).c2 | exact (Blk.ex (hka.alloc _) hbb).c2 | exact ((Blk.ex hka hbb).alloc _).c2 | exact (Blk.far (Blk.far (Blk.ex (hka.alloc _) hbb) (Nat.ne_of_lt hka.lt) _) (Nat.ne_of_lt hka.lt) _).c2 | exact (Blk.far (Blk.far (Blk.ex hka hbb) (Nat.ne_of_lt KC.out.lt) _) (Nat.ne_of_lt KC.out.lt) _).c2 | go_keep) (first | (go_at_call 44; (with_reducible refine (l4New_c g p' _ ?_ hp4).mono ?_); (first | exact Rdr.drew HRD.out | exact (Rdr.drew HRD.out).alloc _); rintro r wa ⟨x, rfl, hnl, hra, hga⟩; (first | (have hka := Blk.grown (Blk.drew KC.out) hga hne1; have hRA := RDA.out _ _ HZ0.out hga; have hCH := HZ0.out) | (have hka := Blk.grown ((Blk.drew KC.out).alloc _) hga hne1; have hRA := RDA.out _ _ (HZ.out _) hga; have hCH := HZ.out (.cells #[.slice none 0 0, .int .i64 0] 33); have hz : Blk wa wr.heap.size 33 [.slice none 0 0, .int .i64 0] := Blk.grown (Blk.new wr.drew 33 [.slice none 0 0, .int .i64 0]) hga hne2; obtain ⟨hz0, hz1⟩ := hz.c2; have hzf := hz.frozen; have hzl := hz.lt))) | (go_at_call 43; (with_reducible refine (fillLineS_c t x A c _ ?_ hn hle hca).mono ?_); (first | exact hRA | exact hRA.alloc _); rintro r wb ⟨A', c', rfl, hfb, hbb⟩; (first | (have hy := Blk.ex hz hbb; obtain ⟨hy0, hy1⟩ := hy.c2; have hyf := hy.frozen; have hyl := hy.lt) | (have hy : Blk wb wa.heap.size 33 [.slice none 0 0, .int .i64 0] := Blk.ex (Blk.new wa 33 [.slice none 0 0, .int .i64 0]) hbb; obtain ⟨hy0, hy1⟩ := hy.c2; have hyf := hy.frozen; have hyl := hy.lt) | skip)))
        all_goals (go_wp2_with fail; go_meet)
        all_goals
          have hCa : Chg g (g + 1) wr wa := (hCH.mono' g (g + 1)).trans (Chg.of_grown hga (fun b hb => by injection hb with hb; omega))
          have hsa := hCa.size
        · exact ⟨wb.heap.size, x, A', c', rfl, rfl, rfl, hnl.2.2, Blk.new _ _ _, (hfb.alloc _).mono (by omega), (hra.ex hbb).alloc _, (hCa.trans ((Chg.of_ex hbb).mono' _ _)).alloc _, by have := hbb.size; omega, fun b hb => by have := hfb.row b hb; omega⟩
        · have hCb : Chg g (g + 1) wr wb := hCa.trans ((Chg.alloc (Chg.refl _ _ wa) _).trans ((Chg.of_ex hbb).mono' _ _))
          have hRb : Rdr wb g (p' + 4) := (hra.alloc _).ex hbb
          exact ⟨wa.heap.size, x, A', c', rfl, rfl, rfl, hnl.2.2, Blk.set (Blk.set hy 0 _) 1 _, Fr.mono (B := wa.heap.size + 1) (by have := ((hfb.set_below (p := ⟨wa.heap.size, 0, none⟩) (by simp) (.slice A' (fillLine t x).1.lines.length c')).set_below (p := ⟨wa.heap.size, 1, none⟩) (by simp) (.int .i64 (fillLine t x).1.hand)); simpa using this) (by omega), Rdr.chg (lo := wa.heap.size) (hi := wa.heap.size + 1) hRb (by repeat' (first | with_reducible exact Chg.refl _ _ wb | with_reducible refine Chg.alloc ?_ _ | with_reducible refine Chg.drew ?_ | with_reducible refine Chg.set ?_ (by omega) _)) (by omega), (hCb.set (by omega) _).set (by omega) _, by omega, fun b hb => by have := hfb.row b hb; simp at this; omega⟩
        · have hCb : Chg g (g + 1) wr wb := hCa.trans ((Chg.of_ex hbb).mono' _ _)
          have hRb : Rdr wb g (p' + 4) := hra.ex hbb
          have hwa : wr.heap.size < wa.heap.size := hz.lt
          exact ⟨wr.heap.size, x, A', c', rfl, rfl, rfl, hnl.2.2, Blk.set (Blk.set hy 0 _) 1 _, Fr.mono (B := wa.heap.size) ((hfb.set_below (p := ⟨wr.heap.size, 0, none⟩) hwa _).set_below (p := ⟨wr.heap.size, 1, none⟩) hwa _) (by omega), Rdr.chg (lo := wr.heap.size) (hi := wr.heap.size + 1) hRb (by repeat' (first | with_reducible exact Chg.refl _ _ wb | with_reducible refine Chg.alloc ?_ _ | with_reducible refine Chg.drew ?_ | with_reducible refine Chg.set ?_ (by omega) _)) (by omega), (hCb.set (by omega) _).set (by omega) _, by omega, fun b hb => by have := hfb.row b hb; omega⟩
      case rest =>
        obtain ⟨gn, x, A5, c5, rfl, rfl, rfl, hax, hkn, hf5, hrd5, hch5, hgn, hrn⟩ := hcut
        have HDR : Hid ((fillLine t x).2.2 = true → Drawn (fillLine t x).1) := Lib.hid (drawn_fill HD.out hax)
        have HF5 := Lib.hid hf5
        have WHF5 : Hid (∀ b, rowOf A5 c5 = some b → wr.heap.size ≤ b ∧ b < wc.heap.size) := Lib.hid (fun b hb => hf5.row b hb)
        have KN := Lib.hid hkn
        have HRD5 := Lib.hid hrd5
        have HRN := Lib.hid hrn
        have Y5 := Lib.hid hch5
        clear hax hkn hf5 hrd5 hch5 hrn RDA HZ HZ0
        generalize fillLine t x = q at *
        obtain ⟨t5, at5, ok5⟩ := q
        dsimp only at HDR KN HF5 ⊢
        clear HRD
        have s5 : wr.heap.size ≤ wc.heap.size := Y5.out.size
        have Ewc : Hid (Chg g (g + 1) w wc) := Lib.hid (Ewr.out.step Y5.out (by omega))
        clear qC0 qC1 jC
        clear qR0 qR1 jR
        replace KC : Hid (Blk wc (gc) 33 [.slice A t.lines.length c, .int .i64 t.hand]) := Lib.hid (KC.out.chg Y5.out (by omega))
        replace KR : Hid (Blk wc (w.heap.size) 33 [.slice none 0 0, .int .i64 0]) := Lib.hid (KR.out.chg Y5.out (by omega))
        replace HF := Lib.hid (HF.out.chg Y5.out WHF.out (by omega))
        obtain ⟨qC0, qC1⟩ := KC.out.c2
        have jC := KC.out.lt
        obtain ⟨qR0, qR1⟩ := KR.out.c2
        have jR := KR.out.lt
        obtain ⟨qN0, qN1⟩ := KN.out.c2
        have jN := KN.out.lt
        have zC := KC.out.frozen
        have hgnc : gn < wc.heap.size := KN.out.lt
        have hgcn : ¬ gc = gn := by omega
        have hgcn' : ¬ gn = gc := fun e => hgcn e.symm
        have hkk : (k : Int) - 1 = ((k - 1 : Nat) : Int) := by omega
        have HKK := Lib.hid hkk
        clear hkk
        have zN := KN.out.frozen
        cases ok5
        · go_wp2
          go_roundw
          case rel => exact ⟨k - 1, t, A, c, p' + 4, by rw [HKK.out], by omega, HD.out, HF.out, KC.out, HRD5.out, by omega, Ewc.out, KR.out⟩
          case measure => simp [intOf]; omega
        clear HF WHF
        have HD5 := Lib.hid (HDR.out rfl)
        have hn5 : t5.lines.length ≤ 1048576 := by have := HD5.out.2.1; omega
        go_wp2_with fail
        refine name_calls ?_; intro v6 hv6
        have X6 : Hid (Chg (gc) (gc + 1) wc v6) := Lib.hid (by rw [hv6]; repeat' (first | with_reducible exact Chg.refl _ _ _ | with_reducible refine Chg.alloc ?_ _ | with_reducible refine Chg.drew ?_ | with_reducible refine Chg.set ?_ (by omega) _))
        have t6 : wc.heap.size ≤ v6.heap.size := X6.out.size
        have Ev6 : Hid (Chg g (g + 1) w v6) := Lib.hid (Ewc.out.step X6.out (by omega))
        clear qC0 qC1 jC
        clear qR0 qR1 jR
        clear qN0 qN1 jN
        replace KC : Hid (Blk v6 (gc) 33 [.slice A5 t5.lines.length c5, .int .i64 t5.hand]) := Lib.hid (by rw [hv6]; exact (KC.out.set 0 _).set 1 _)
        replace KR : Hid (Blk v6 (w.heap.size) 33 [.slice none 0 0, .int .i64 0]) := Lib.hid (KR.out.chg X6.out (by omega))
        replace KN : Hid (Blk v6 (gn) 33 [.slice A5 t5.lines.length c5, .int .i64 t5.hand]) := Lib.hid (KN.out.chg X6.out (by omega))
        replace HF5 := Lib.hid (HF5.out.chg X6.out WHF5.out (by omega))
        replace HRD5 := Lib.hid (HRD5.out.chg X6.out (by omega))
        clear hv6
        refine (pick_c g (p' + 4) 5 _ HRD5.out (by omega) (by omega)).mono ?_; rintro r w6 ⟨z6, rfl, hhv6, hrd6, hb6⟩
        have Y6 : Hid (Chg (g) (g + 1) v6 w6) := Lib.hid (Chg.of_grown hb6 (fun b hb => by injection hb with hb; omega))
        have s6 : v6.heap.size ≤ w6.heap.size := Y6.out.size
        have Ew6 : Hid (Chg g (g + 1) w w6) := Lib.hid (Ev6.out.step Y6.out (by omega))
        clear hb6
        replace KC : Hid (Blk w6 (gc) 33 [.slice A5 t5.lines.length c5, .int .i64 t5.hand]) := Lib.hid (KC.out.chg Y6.out (by omega))
        replace KR : Hid (Blk w6 (w.heap.size) 33 [.slice none 0 0, .int .i64 0]) := Lib.hid (KR.out.chg Y6.out (by omega))
        replace KN : Hid (Blk w6 (gn) 33 [.slice A5 t5.lines.length c5, .int .i64 t5.hand]) := Lib.hid (KN.out.chg Y6.out (by omega))
        replace HF5 := Lib.hid (HF5.out.chg Y6.out WHF5.out (by omega))
        clear HRD5
        have HRD6 := Lib.hid hrd6; clear hrd6
        have HHV6 := Lib.hid hhv6; clear hhv6
        obtain ⟨qC0, qC1⟩ := KC.out.c2
        have jC := KC.out.lt
        obtain ⟨qR0, qR1⟩ := KR.out.c2
        have jR := KR.out.lt
        obtain ⟨qN0, qN1⟩ := KN.out.c2
        have jN := KN.out.lt
        have zC := KC.out.frozen
        have zN := KN.out.frozen
        by_cases hv6 : z6 = 0
        · subst hv6
          have C7 := Lib.hid (wireS_c t5 at5 true)
          have HDW := Lib.hid (fun h => drawn_wire (p := at5) (b := true) HD5.out h)
          generalize wireLine t5 at5 true = q7 at C7 HDW
          obtain ⟨u7, ok7⟩ := q7
          dsimp only at C7 HDW
          go_wp2_with fail
          refine name_calls ?_; intro v7 hv7
          have X7 : Hid (Chg (0) (0) w6 v7) := Lib.hid (by rw [hv7]; repeat' (first | with_reducible exact Chg.refl _ _ _ | with_reducible refine Chg.alloc ?_ _ | with_reducible refine Chg.drew ?_ | with_reducible refine Chg.set ?_ (by omega) _))
          have t7 : w6.heap.size ≤ v7.heap.size := X7.out.size
          have Ev7 : Hid (Chg g (g + 1) w v7) := Lib.hid (Ew6.out.step X7.out (by omega))
          clear qC0 qC1 jC
          clear qR0 qR1 jR
          clear qN0 qN1 jN
          replace KC : Hid (Blk v7 (gc) 33 [.slice A5 t5.lines.length c5, .int .i64 t5.hand]) := Lib.hid (KC.out.chg X7.out (by omega))
          replace KR : Hid (Blk v7 (w.heap.size) 33 [.slice none 0 0, .int .i64 0]) := Lib.hid (KR.out.chg X7.out (by omega))
          replace KN : Hid (Blk v7 (gn) 33 [.slice A5 t5.lines.length c5, .int .i64 t5.hand]) := Lib.hid (KN.out.chg X7.out (by omega))
          replace HF5 := Lib.hid (HF5.out.chg X7.out WHF5.out (by omega))
          replace HRD6 := Lib.hid (HRD6.out.chg X7.out (by omega))
          clear hv7
          refine (C7.out A5 c5 _ HF5.out.rd hn5 HF5.out.le HF5.out.cap).mono ?_; rintro r w7 ⟨A7, c7, rfl, hf7, hb7⟩
          have Y7 : Hid (Chg 0 0 v7 w7) := Lib.hid (Chg.of_ex hb7)
          have s7 : v7.heap.size ≤ w7.heap.size := Y7.out.size
          have Ew7 : Hid (Chg g (g + 1) w w7) := Lib.hid (Ev7.out.step Y7.out (by omega))
          clear hb7
          replace KC : Hid (Blk w7 (gc) 33 [.slice A5 t5.lines.length c5, .int .i64 t5.hand]) := Lib.hid (KC.out.chg Y7.out (by omega))
          replace KR : Hid (Blk w7 (w.heap.size) 33 [.slice none 0 0, .int .i64 0]) := Lib.hid (KR.out.chg Y7.out (by omega))
          replace KN : Hid (Blk w7 (gn) 33 [.slice A5 t5.lines.length c5, .int .i64 t5.hand]) := Lib.hid (KN.out.chg Y7.out (by omega))
          replace HF5 := Lib.hid (HF5.out.chg Y7.out WHF5.out (by omega))
          replace HRD6 := Lib.hid (HRD6.out.chg Y7.out (by omega))
          have HF7 := Lib.hid hf7; clear hf7
          have WHF7 := Lib.hid HF7.out.row
          obtain ⟨qC0, qC1⟩ := KC.out.c2
          have jC := KC.out.lt
          obtain ⟨qR0, qR1⟩ := KR.out.c2
          have jR := KR.out.lt
          obtain ⟨qN0, qN1⟩ := KN.out.c2
          have jN := KN.out.lt
          have zC := KC.out.frozen
          have zN := KN.out.frozen
          have hwn : ¬ w.heap.size = gn := by omega
          have hwc : ¬ w.heap.size = gc := by omega
          cases ok7
          · go_wp2
            go_roundw
            case rel => exact ⟨k - 1, t5, A5, c5, p' + 4 + 1, by rw [HKK.out], by omega, HD5.out, Fr.mono (B := wr.heap.size) ((HF5.out.put HRN.out _).put HRN.out _) (by omega), (KC.out.far hgcn _).far hgcn _, Rdr.chg (lo := gn) (hi := gn + 1) HRD6.out (by repeat' (first | with_reducible exact Chg.refl _ _ w7 | with_reducible refine Chg.alloc ?_ _ | with_reducible refine Chg.drew ?_ | with_reducible refine Chg.set ?_ (by omega) _)) (by omega), by omega, (by repeat' (first | with_reducible exact Ew7.out | with_reducible refine Chg.alloc ?_ _ | with_reducible refine Chg.drew ?_ | with_reducible refine Chg.set ?_ (by omega) _)), (KR.out.far hwn _).far hwn _⟩
            case measure => simp [intOf]; omega
          · go_wp2
            go_roundw
            case rel => exact ⟨k - 1, u7, A7, c7, p' + 4 + 1, by rw [HKK.out], by omega, HDW.out (by first | rfl | trivial), Fr.mono (B := v7.heap.size) (by repeat' (first | with_reducible exact HF7.out | with_reducible refine Fr.alloc ?_ _ | with_reducible refine Fr.drew ?_ | with_reducible refine Fr.set_below ?_ (by first | (simp; done) | (simp; omega)) _)) (by omega), by repeat' (first | with_reducible refine Blk.far ?_ hgcn _ | with_reducible exact Blk.put2 ((KC.out.far hgcn _).far hgcn _) | with_reducible exact Blk.put2 KC.out), Rdr.chg (lo := w.heap.size + 1) (hi := gn + 1) HRD6.out (by repeat' (first | with_reducible exact Chg.refl _ _ w7 | with_reducible refine Chg.alloc ?_ _ | with_reducible refine Chg.drew ?_ | with_reducible refine Chg.set ?_ (by omega) _)) (by omega), by omega, (by repeat' (first | with_reducible exact Ew7.out | with_reducible refine Chg.alloc ?_ _ | with_reducible refine Chg.drew ?_ | with_reducible refine Chg.set ?_ (by omega) _)), by repeat' (first | exact KR.out | with_reducible refine Blk.far ?_ (by simp; omega) _)⟩
            case measure => simp [intOf]; omega
        · have hv6' : (z6 == 0) = false := by simp [hv6]
          go_wp2
          go_roundw
          case rel => exact ⟨k - 1, t5, A5, c5, p' + 4 + 1, by rw [HKK.out], by omega, HD5.out, HF5.out.mono (by omega), KC.out, HRD6.out, by omega, Ew6.out, KR.out⟩
          case measure => simp [intOf]; omega
    · obtain rfl : k = 0 := by omega
      have zR := KR.out.frozen
      go_wp2
      exact bodyPost_ret (v := .agg #[.slice A t.lines.length c, .int .i64 t.hand]) (by simp [results, Try.results23, go_sem, qR0, qR1]) rfl
        ⟨t, A, c, p', rfl, HD.out, Fr.mono (B := w.heap.size + 1) (by repeat' (first | with_reducible exact HF.out | with_reducible refine Fr.alloc ?_ _ | with_reducible refine Fr.drew ?_ | with_reducible refine Fr.set_below ?_ (by first | (simp; done) | (simp; omega)) _)) (by omega), Rdr.chg (lo := w.heap.size) (hi := w.heap.size + 1) HRD.out (by repeat' (first | with_reducible exact Chg.refl _ _ wr | with_reducible refine Chg.alloc ?_ _ | with_reducible refine Chg.drew ?_ | with_reducible refine Chg.set ?_ (by omega) _)) (by omega), by omega, Chg.grown (by repeat' (first | with_reducible exact Ewr.out | with_reducible refine Chg.alloc ?_ _ | with_reducible refine Chg.drew ?_ | with_reducible refine Chg.set ?_ (by omega) _))⟩
end Go.Proofs.Ytidnefcnojedoaa
