/- Joined: Mf, Ap, Nr, Mt, Nt, L1, Vk, Ta, Tb, Tc, Eq, Td, Tm, Vm, Fo, Te, Tp. -/
import Derived.Test.YtbdlpbladpppjaaGreatDoorRows
import Derived.Deep.Upon
import Derived.Laws.CopyRow
import Derived.Deep.RegionHeld3
import Derived.IntWalk
import Derived.Maps.OwnOps
import Derived.Maps.Views
import Derived.DeepKeys4
import Derived.MapViews
import Derived.Maps.OwnSet
import Derived.Test.YtbdlpbladpppjaaGreatDoorK1
namespace Go.Proofs.YtbdlpbladpppjaaGreatDoor
open Go.ChangeShapes Go.WideShapes Go.ChangeAt Go.RowKit
open Rec (sz cs)
set_option linter.unusedVariables false
set_option maxRecDepth 100000

theorem infoMFrame : (Tryz.prog.info? 45).map (fun i => (i.zero, i.size, i.bytes)) = some (some (.agg #[.bool false, .int .i64 0, .int .i64 0, .int .i64 0, .int .i64 0]), 5, 40) := by kernel_rfl

theorem fieldsFrame : Tryz.prog.underlying 45 = some (.struct (Tryz.prog.fieldsOf 45)) := by kernel_rfl
theorem heldFrame_ : Tryz.prog.stoodInHeld 45 = false := by kernel_rfl
theorem guardFrame : Tryz.prog.eqGuardType Tryz.prog.depth 45 = false := by kernel_rfl
theorem eqIn_frame (x y : FrameD) (w : World) : (Op.equalIn 10000 45 (.agg #[.bool x.used, .int .i64 x.key.space, .int .i64 x.key.page, .int .i64 x.rights, .int .i64 x.next]) (.agg #[.bool y.used, .int .i64 y.key.space, .int .i64 y.key.page, .int .i64 y.rights, .int .i64 y.next])).run Tryz.prog w = .ok (eqB x y) w := by
 obtain ⟨a1, ⟨b1, c1⟩, d1, e1⟩ := x
 obtain ⟨a2, ⟨b2, c2⟩, d2, e2⟩ := y
 rw [run_equalIn_agg w 9999 _ _ _ fieldsFrame heldFrame_]
 simp [go_sem, Tryz.underlying45, Tryz.underlying43]
 by_cases k0 : a1 = a2 <;> by_cases k1 : b1 = b2 <;> by_cases k2 : c1 = c2 <;> by_cases k3 : d1 = d2 <;> by_cases k4 : e1 = e2 <;> simp [eqB, *]
theorem neq_frame (x y : FrameD) (w : World) : (binOp .neq 45 (.agg #[.bool x.used, .int .i64 x.key.space, .int .i64 x.key.page, .int .i64 x.rights, .int .i64 x.next]) (.agg #[.bool y.used, .int .i64 y.key.space, .int .i64 y.key.page, .int .i64 y.rights, .int .i64 y.next])).run Tryz.prog w = .ok (.bool (!eqB x y)) w := by
 rw [run_neq_struct, eqIn_frame]; rfl
theorem eql_frame (x y : FrameD) (w : World) : (binOp .eql 45 (.agg #[.bool x.used, .int .i64 x.key.space, .int .i64 x.key.page, .int .i64 x.rights, .int .i64 x.next]) (.agg #[.bool y.used, .int .i64 y.key.space, .int .i64 y.key.page, .int .i64 y.rights, .int .i64 y.next])).run Tryz.prog w = .ok (.bool (eqB x y)) w := by
 rw [run_eql_struct, eqIn_frame]; rfl

set_option maxHeartbeats 1000000 in
theorem equalFrame_c (A B : Option Addr) (c d : Nat) (xs ys : List FrameD) (w : World) (hx : Rd w A xs) (hy : Rd w B ys) (hn : xs.length ≤ 1048576) (hm : ys.length ≤ 1048576) :
   Calls Tryz.prog 69 #[.slice A xs.length c, .slice B ys.length d] w
   fun r w' => r = .returned (.bool (eqB xs ys)) ∧ Ex w w' := by
 by_cases hl : xs.length = ys.length
 ·obtain ⟨n, hn1⟩ : ∃ n, n = xs.length := ⟨_, rfl⟩
  obtain ⟨m, hm1⟩ : ∃ m, m = ys.length := ⟨_, rfl⟩
  rw [← hn1, ← hm1]
  obtain rfl : n = m := by omega
  have hn' : n ≤ 1048576 := by omega
  have HX := zq hn1
  have HY := zq hm1
  have H1 := zq hx
  have H2 := zq hy
  clear hn hm hn1 hm1 hx hy hl
  go_enter Tryz.func69, Tryz.ntmps69
  go_wp2
  go_loopw [13] (fun i wr => ∃ k : Nat, k ≤ n ∧ i = .int .i64 k ∧ Ex w wr ∧ xs.take k = ys.take k) (fun i _ => n - (intOf i).toNat)
  case atStart => exact ⟨0, Nat.zero_le _, rfl, Ex.refl _, rfl⟩
  case round =>
   obtain ⟨k, hk, rfl, hbel, htk⟩ := hrel
   have HT := zq htk
   clear htk
   by_cases hlt : k < n
   ·obtain ⟨b1, o1, x, rfl, hb1, hxk, h0, h1, h2, h3, h4⟩ := Rd.frame (H1.out.ex hbel) (k := k) (by have := HX.out; omega)
    obtain ⟨b2, o2, y, rfl, hb2, hyk, g0, g1, g2, g3, g4⟩ := Rd.frame (H2.out.ex hbel) (k := k) (by have := HY.out; omega)
    have HXK := zq hxk
    have HYK := zq hyk
    clear hxk hyk
    have hneq := neq_frame x y
    have hgd := guardFrame
    cases hxy : eqB x y
    ·have hne : x ≠ y := eqB_false.1 hxy
     skip
     go_wp2_with fail
     go_quiet (fail)
     clear hneq hgd
     go_wp2
     go_ret
     exact ⟨ret_bool (by rw [eq_comm, eqB_false]; exact ne_of_elem HXK.out HYK.out hne), hbel.drewN _⟩
    ·have HE := zq (eqB_true.1 hxy)
     skip
     go_wp2_with fail
     go_quiet (fail)
     clear hneq hgd
     go_wp2
     go_roundw
     case rel => exact ⟨k + 1, by omega, by go_num, hbel.drewN _, (take_eq_step HXK.out HYK.out).2 ⟨HT.out, HE.out⟩⟩
     case measure => simp [intOf]; omega
   ·go_wp2
    go_ret
    exact ⟨ret_bool (by rw [eq_comm, eqB_true]; exact eq_of_take HX.out.symm HY.out.symm (by rw [show n = k from by omega]; exact HT.out)), hbel⟩
 ·have hne : ((xs.length : Int) != (ys.length : Int)) = true := by simp; omega
  go_enter Tryz.func69, Tryz.ntmps69
  go_wp2
  go_ret
  exact ⟨ret_bool (by rw [eq_comm, eqB_false]; intro h; exact hl (by rw [h])), Ex.refl _⟩
end Go.Proofs.YtbdlpbladpppjaaGreatDoor
namespace Go.Proofs.YtbdlpbladpppjaaGreatDoor
open Go.ChangeShapes Go.WideShapes Go.ChangeAt Go.RowKit
open Rec (sz cs)

section
variable {α : Type} [Rec α]

theorem addr_lit (b off j : Nat) : (⟨b, off, none⟩ : Addr).add j = ⟨b, off + j, none⟩ := by
 unfold Addr.add; split <;> simp_all

theorem Rd.news {w : World} {b off : Nat} {xs : List α} (h : Rd w (some ⟨b, off, none⟩) xs) : ∀ j u, (flat xs)[j]? = some u → w.cell? ((⟨b, off, none⟩ : Addr).add j) = some u := by
 intro j u hu
 have hlt := getElem?_lt hu
 rw [flat_length] at hlt
 obtain ⟨b', o', e, hb, hcs⟩ := h (by rcases xs with _ | ⟨x, l⟩ <;> simp at hlt ⊢)
 injection e with e
 injection e with e1 e2
 subst e1 e2
 rw [addr_lit]
 exact hcs j u hu

/-- What an append leaves. -/
structure Apd (E : TypeId) (w : World) (B : Nat) (A : Option Addr) (c : Nat) (zs : List α) (A' : Option Addr) (c' : Nat) (w' : World) : Prop where
 fr : Fr E w' B A' c' zs
 grown : w.grownBy w' (rowOf A c)
 row : rowOf A' c' = rowOf A c ∨ rowOf A' c' = some w.heap.size

/-- THE LAW. -/
theorem run_append_fr {P : Program} (w : World) (t ty E : TypeId) (i : TypeInfo) (z : Value) (bytes B : Nat) (ht : P.underlying t = some (.slice E)) (hi : P.info? E = some i) (hz : i.zero = some z)
  (hsize : i.size = sz α) (hby : i.bytes = bytes) (hzs : z.cells.size = sz α)
  (A : Option Addr) (c : Nat) (xs : List α) (hf : Fr E w B A c xs) (S : Option Addr) (c2 : Nat) (ys : List α) (hy : Rd w S ys)
  (h63 : xs.length + ys.length ≤ maxLen) (hbytes : (xs.length + ys.length) * bytes ≤ 140737488355328) (hbase : B ≤ w.heap.size) :
  ∃ A' c' w', (Builtin.append_ #[t, t] ty #[.slice A xs.length c, .slice S ys.length c2]).run P w = .ok (.slice A' (xs.length + ys.length) c') w' ∧ Apd E w B A c (xs ++ ys) A' c' w' := by
 by_cases hm : ys.length = 0
 ·obtain rfl : ys = [] := List.eq_nil_of_length_eq_zero hm
  have hle := hf.le
  refine ⟨A, c, w, ?_, ⟨by simpa using hf, grown_refl _ _, .inl rfl⟩⟩
  cases A <;> cases S <;> simp [Builtin.append_, run_underlying ht, sizeOf, typeInfo, hi, Builtin.lenOf, Builtin.firstCells, loadCells, loadCellsFrom, hle, storeCells]
 obtain ⟨b, off, rfl, -, -⟩ := hy (by omega)
 have hnews := hy.news
 have hl : (flat ys).length = ys.length * i.size := by rw [flat_length, hsize]
 have h63' : xs.length + ys.length ≤ 9223372036854775807 := by simp only [maxLen] at h63; omega
 have hpos : 0 < sz α := Rec.pos
 have fresh : ∀ old, Fr E (w.drew.alloc (.cells ((flat xs).toArray ++ (flat ys).toArray ++ Builtin.zeroCells z.cells (grownCap w (xs.length + ys.length) old E - (xs.length + ys.length))) E)) B (some ⟨w.heap.size, 0, none⟩) (grownCap w (xs.length + ys.length) old E) (xs ++ ys) := by
  intro old
  have hge := grownCap_ge w (xs.length + ys.length) old E
  refine ⟨by rw [List.length_append]; exact hge, grownCap_le_maxLen w _ old E h63, .inr ⟨w.heap.size, (Builtin.zeroCells z.cells (grownCap w (xs.length + ys.length) old E - (xs.length + ys.length))).toList, rfl, hbase, ?_, ?_⟩⟩
  ·unfold Bk Blk
   rw [show w.heap.size = w.drew.heap.size from rfl, heap_alloc_new]
   congr 2
   apply Array.ext'
   simp [flat_append]
  ·simp only [Array.length_toList, size_zeroCells, hzs, List.length_append]
   exact Nat.le_refl _
 have gr : ∀ (cells : Array Value) (row : Option Nat), w.grownBy (w.drew.alloc (.cells cells E)) row := fun cells row => ⟨rfl, rfl, rfl, by simp, fun k hk _ => Below.heap_alloc w.drew _ k hk⟩
 by_cases hroom : xs.length + ys.length ≤ c
 ·obtain ⟨hle, hcm, h0 | ⟨g, rest, rfl, hB, hb, hr⟩⟩ := hf
  ·omega
  have hfit : xs.length * i.size + (flat ys).length ≤ (flat xs ++ rest).toArray.size := by
   rw [hl, hsize]
   simp only [List.size_toArray, List.length_append, flat_length]
   have : ys.length * sz α ≤ (c - xs.length) * sz α := Nat.mul_le_mul_right _ (by omega)
   omega
  have hrun := run_append_room (P := P) w t ty E i ht hi g xs.length c (flat xs ++ rest).toArray hb ⟨b, off, none⟩ ys.length c2 (flat ys) hl hnews (flat_one ys) hroom hfit
  refine ⟨_, _, _, hrun, ⟨⟨by rw [List.length_append]; exact hroom, hcm, .inr ⟨g, rest.drop (ys.length * sz α), rfl, hB, ?_, ?_⟩⟩, ⟨rfl, rfl, rfl, by simp, fun k _ hk => setRow_other w g k _ (fun e => hk (by rw [e, rowOf_some (by omega)]))⟩, .inl rfl⟩⟩
  ·unfold Bk Blk
   rw [setRow_heap w g _ _ E _ hb]
   congr 2
   apply Array.ext'
   have e1 : xs.length * i.size = (flat xs).length := by rw [flat_length, hsize]
   simp only [e1, flat_append, List.append_assoc]
   rw [List.take_left, hl, hsize, flat_length]
   congr 2
   rw [← flat_length, List.drop_append, List.drop_of_length_le (by omega)]
   simp [flat_length]
  ·rw [List.length_drop, List.length_append]
   have : (c - (xs.length + ys.length)) * sz α = (c - xs.length) * sz α - ys.length * sz α := by rw [← Nat.sub_mul]; congr 1; omega
   omega
 ·cases A with
  | none =>
   have hx0 : xs = [] := by
    obtain ⟨hle, hcm, h0 | ⟨g, rest, e, _⟩⟩ := hf
    ·exact List.eq_nil_of_length_eq_zero (by omega)
    ·cases e
   have hc0 : c = 0 := by
    obtain ⟨hle, hcm, h0 | ⟨g, rest, e, _⟩⟩ := hf
    ·exact h0
    ·cases e
   subst hx0 hc0
   have hrun := run_append_nil (P := P) w t ty E i z ht hi hz ⟨b, off, none⟩ ys.length c2 (flat ys) hl hnews (by omega) (by simp at h63'; omega) (by rw [hby]; simp at hbytes; omega)
   have hfr := fresh 0
   simp only [List.length_nil, Nat.zero_add, flat_nil, List.nil_append] at hfr hrun ⊢
   refine ⟨_, _, _, hrun, ⟨by simpa using hfr, gr _ _, .inr (rowOf_some ?_)⟩⟩
   have := grownCap_ge w ys.length 0 E
   omega
  | some ad =>
   have hov : ∀ j u, (flat xs)[j]? = some u → w.cell? (ad.add j) = some u := by
    intro j u hu
    have hlt := getElem?_lt hu
    rw [flat_length] at hlt
    obtain ⟨b', o', e, -, -⟩ := hf.rd (by rcases xs with _ | ⟨x, l⟩ <;> simp at hlt ⊢)
    injection e with e
    subst e
    exact hf.rd.news j u hu
   have hrun := run_append_grow (P := P) w t ty E i z ht hi hz ad xs.length c (flat xs) (by rw [flat_length, hsize]) hov ⟨b, off, none⟩ ys.length c2 (flat ys) hl hnews (by omega) (by omega) (by rw [hby]; exact growslice_fits (by omega) hbytes)
   refine ⟨_, _, _, hrun, ⟨fresh c, gr _ _, .inr (rowOf_some ?_)⟩⟩
   have := grownCap_ge w (xs.length + ys.length) c E
   omega

/-- At the operation. -/
theorem wp_append_fr {P : Program} (w : World) {o : Oper} {a : Act} {K : Act → World → Prop} {Q : Exit → Act → World → Prop} (s x : Operand) (t : TypeId)
  (ho : o.op = .call { callee := .builtin .append, args := #[s, x], argTypes := #[t, t] })
  (E : TypeId) (i : TypeInfo) (z : Value) (bytes B : Nat) (ht : P.underlying t = some (.slice E)) (hi : P.info? E = some i) (hz : i.zero = some z)
  (hsize : i.size = sz α) (hby : i.bytes = bytes) (hzs : z.cells.size = sz α)
  (A : Option Addr) (c n : Nat) (xs : List α) (hn : n = xs.length) (hs : a.eval s = .slice A n c) (hf : Fr E w B A c xs) (S : Option Addr) (c2 m : Nat) (ys : List α) (hm : m = ys.length) (hx : a.eval x = .slice S m c2) (hy : Rd w S ys)
  (h63 : n + m ≤ maxLen) (hbytes : (n + m) * bytes ≤ 140737488355328) (hbase : B ≤ w.heap.size)
  (h : ∀ A' c' w', Apd E w B A c (xs ++ ys) A' c' w' → K (a.put o.dst (.slice A' (n + m) c')) w') : o.wp P a w K Q := by
 subst hn hm
 obtain ⟨A', c', w', hr, h2⟩ := run_append_fr (P := P) w t o.type E i z bytes B ht hi hz hsize hby hzs A c xs hf S c2 ys hy h63 hbytes hbase
 unfold Oper.wp execOp
 simp only [ho, resolve, invoke, builtin, Sem.run_bind, Sem.run_pure, Result.andThen_ok, List.map_toArray, List.map_cons, List.map_nil, hs, hx, hr]
 exact h A' c' w' h2

theorem wpList_append_fr {P : Program} {w : World} {ops : Array Oper} {rest : List Oper} {o : Oper} {a : Act} {Q : Exit → Act → World → Prop} (hgd : o.guard = none) (s x : Operand) (t : TypeId)
  (ho : o.op = .call { callee := .builtin .append, args := #[s, x], argTypes := #[t, t] })
  (E : TypeId) (i : TypeInfo) (z : Value) (bytes B : Nat) (ht : P.underlying t = some (.slice E)) (hi : P.info? E = some i) (hz : i.zero = some z)
  (hsize : i.size = sz α) (hby : i.bytes = bytes) (hzs : z.cells.size = sz α)
  (A : Option Addr) (c n : Nat) (xs : List α) (hn : n = xs.length) (hs : a.eval s = .slice A n c) (hf : Fr E w B A c xs) (S : Option Addr) (c2 m : Nat) (ys : List α) (hm : m = ys.length) (hx : a.eval x = .slice S m c2) (hy : Rd w S ys)
  (h63 : n + m ≤ maxLen) (hbytes : (n + m) * bytes ≤ 140737488355328) (hbase : B ≤ w.heap.size)
  (h : ∀ A' c' w', Apd E w B A c (xs ++ ys) A' c' w' → wpList P ops Q rest (a.put o.dst (.slice A' (n + m) c')) w') : wpList P ops Q (o :: rest) a w :=
 wpList_plain hgd fun _ hK => wp_append_fr w s x t ho E i z bytes B ht hi hz hsize hby hzs A c n xs hn hs hf S c2 m ys hm hx hy h63 hbytes hbase fun A' c' w' h2 => hK _ _ (h A' c' w' h2)

theorem step_append_fr {P : Program} {w : World} {ops : Array Oper} {o : Oper} {a : Act} {K : Act → World → Prop} {Q : Exit → Act → World → Prop} {X : Prop} (hgd : o.guard = none) (s x : Operand) (t : TypeId)
  (ho : o.op = .call { callee := .builtin .append, args := #[s, x], argTypes := #[t, t] })
  (E : TypeId) (i : TypeInfo) (z : Value) (bytes B : Nat) (ht : P.underlying t = some (.slice E)) (hi : P.info? E = some i) (hz : i.zero = some z)
  (hsize : i.size = sz α) (hby : i.bytes = bytes) (hzs : z.cells.size = sz α)
  (A : Option Addr) (c n : Nat) (xs : List α) (hn : n = xs.length) (hs : a.eval s = .slice A n c) (hf : Fr E w B A c xs) (S : Option Addr) (c2 m : Nat) (ys : List α) (hm : m = ys.length) (hx : a.eval x = .slice S m c2) (hy : Rd w S ys)
  (h63 : n + m ≤ maxLen) (hbytes : (n + m) * bytes ≤ 140737488355328) (hbase : B ≤ w.heap.size)
  (h : ∀ A' c' w', Apd E w B A c (xs ++ ys) A' c' w' → K (a.put o.dst (.slice A' (n + m) c')) w') :
  if Region.wanted o (yielded ops a.tmps) = true then Oper.wp P o a w K Q else X := by
 have hw : Region.wanted o (yielded ops a.tmps) = true := by simp [Region.wanted, hgd]
 rw [if_pos hw]
 exact wp_append_fr w s x t ho E i z bytes B ht hi hz hsize hby hzs A c n xs hn hs hf S c2 m ys hm hx hy h63 hbytes hbase h
end
end Go.Proofs.YtbdlpbladpppjaaGreatDoor
namespace Go.Proofs.YtbdlpbladpppjaaGreatDoor
open Go.ChangeShapes Go.WideShapes Go.ChangeAt Go.RowKit
open Rec (sz cs)
set_option linter.unusedVariables false
set_option maxRecDepth 100000


theorem table_eq (x y : TableD) : x = y ↔ x.buckets = y.buckets ∧ x.frames = y.frames := by
 cases x; cases y; simp

set_option maxHeartbeats 400000 in
theorem tableSameI_c (x y : TableD) (A : Option Addr) (c : Nat) (B : Option Addr) (d : Nat) (A' : Option Addr) (c' : Nat) (B' : Option Addr) (d' : Nat) (w : World) (hx : Rd w A x.buckets) (hy : Rd w B x.frames) (hx' : Rd w A' y.buckets) (hy' : Rd w B' y.frames)
  (hn : x.buckets.length ≤ 1048576) (hm : x.frames.length ≤ 1048576) (hn' : y.buckets.length ≤ 1048576) (hm' : y.frames.length ≤ 1048576) :
  Calls Tryz.prog 40 #[.agg #[.slice A x.buckets.length c, .slice B x.frames.length d], .agg #[.slice A' y.buckets.length c', .slice B' y.frames.length d']] w fun r w' => r = .returned (.bool (eqB x y)) ∧ Ex w w' := by
 have HX := zq hx
 have HY := zq hy
 have HX2 := zq hx'
 have HY2 := zq hy'
 clear hx hy hx' hy'
 have C1 := zq (fun w h1 h2 => equalInt_c A A' c c' x.buckets y.buckets w h1 h2 hn hn')
 have C2 := zq (fun w h1 h2 => equalFrame_c B B' d d' x.frames y.frames w h1 h2 hm hm')
 cases h1 : eqB x.buckets y.buckets
 ·have e : eqB x y = false := by rw [eqB_false, Ne, table_eq]; intro h; rw [eqB_true.2 h.1] at h1; cases h1
  rw [e]
  rw [h1] at C1
  clear e h1
  go_enter Tryz.func40, Tryz.ntmps40
  go_wp2_with fail
  refine name_calls ?_; intro v1 hv1
  have X1 : Hid (Chg (0) (0) w v1) := zx hv1
  have t1 := X1.out.size
  have Ev1 := zq ((Ex.refl w).chg X1.out (by omega))
  have KX : Hid (Blk v1 (w.heap.size) 26 [.slice A x.buckets.length c, .slice B x.frames.length d]) := zk hv1
  have lX : w.heap.size < v1.heap.size := KX.out.lt
  have KY : Hid (Blk v1 (w.heap.size + 1) 26 [.slice A' y.buckets.length c', .slice B' y.frames.length d']) := zk hv1
  have lY : w.heap.size + 1 < v1.heap.size := KY.out.lt
  have DX := zq (HX.out.ex Ev1.out)
  have DXX := zq (HX2.out.ex Ev1.out)
  clear hv1
  refine (C1.out _ DX.out DXX.out).mono ?_; rintro r w1 ⟨rfl, hb1⟩
  have Y1 := zq (Chg.of_ex hb1)
  have s1 := Y1.out.size
  have Ew1 := zq (Ev1.out.chg Y1.out (by omega))
  clear hb1
  replace KX := zq (KX.out.chg Y1.out (by omega))
  replace KY := zq (KY.out.chg Y1.out (by omega))
  replace DX := zq (HX.out.ex Ew1.out)
  replace DXX := zq (HX2.out.ex Ew1.out)
  obtain ⟨qX0, qX1⟩ := KX.out.c2
  have jX := KX.out.lt
  obtain ⟨qY0, qY1⟩ := KY.out.c2
  have jY := KY.out.lt
  go_wp2
  go_ret
  exact ⟨rfl, Ew1.out⟩
 ·have e : eqB x y = eqB x.frames y.frames := by rw [Bool.eq_iff_iff, eqB_true, eqB_true, table_eq]; exact ⟨fun h => h.2, fun h => ⟨eqB_true.1 h1, h⟩⟩
  rw [e]
  rw [h1] at C1
  clear e h1
  go_enter Tryz.func40, Tryz.ntmps40
  go_wp2_with fail
  refine name_calls ?_; intro v1 hv1
  have X1 : Hid (Chg (0) (0) w v1) := zx hv1
  have t1 := X1.out.size
  have Ev1 := zq ((Ex.refl w).chg X1.out (by omega))
  have KX : Hid (Blk v1 (w.heap.size) 26 [.slice A x.buckets.length c, .slice B x.frames.length d]) := zk hv1
  have lX : w.heap.size < v1.heap.size := KX.out.lt
  have KY : Hid (Blk v1 (w.heap.size + 1) 26 [.slice A' y.buckets.length c', .slice B' y.frames.length d']) := zk hv1
  have lY : w.heap.size + 1 < v1.heap.size := KY.out.lt
  have DX := zq (HX.out.ex Ev1.out)
  have DXX := zq (HX2.out.ex Ev1.out)
  have DY := zq (HY.out.ex Ev1.out)
  have DYY := zq (HY2.out.ex Ev1.out)
  clear hv1
  refine (C1.out _ DX.out DXX.out).mono ?_; rintro r w1 ⟨rfl, hb1⟩
  have Y1 := zq (Chg.of_ex hb1)
  have s1 := Y1.out.size
  have Ew1 := zq (Ev1.out.chg Y1.out (by omega))
  clear hb1
  replace KX := zq (KX.out.chg Y1.out (by omega))
  replace KY := zq (KY.out.chg Y1.out (by omega))
  replace DX := zq (HX.out.ex Ew1.out)
  replace DXX := zq (HX2.out.ex Ew1.out)
  replace DY := zq (HY.out.ex Ew1.out)
  replace DYY := zq (HY2.out.ex Ew1.out)
  obtain ⟨qX0, qX1⟩ := KX.out.c2
  have jX := KX.out.lt
  obtain ⟨qY0, qY1⟩ := KY.out.c2
  have jY := KY.out.lt
  go_wp2_with fail
  refine name_calls ?_; intro v2 hv2
  have X2 : Hid (Chg (0) (0) w1 v2) := zx hv2
  have t2 := X2.out.size
  have Ev2 := zq (Ew1.out.chg X2.out (by omega))
  clear qX0 qX1 jX
  clear qY0 qY1 jY
  replace KX := zq (KX.out.chg X2.out (by omega))
  replace KY := zq (KY.out.chg X2.out (by omega))
  replace DX := zq (HX.out.ex Ev2.out)
  replace DXX := zq (HX2.out.ex Ev2.out)
  replace DY := zq (HY.out.ex Ev2.out)
  replace DYY := zq (HY2.out.ex Ev2.out)
  clear hv2
  refine (C2.out _ DY.out DYY.out).mono ?_; rintro r w2 ⟨rfl, hb2⟩
  have Y2 := zq (Chg.of_ex hb2)
  have s2 := Y2.out.size
  have Ew2 := zq (Ev2.out.chg Y2.out (by omega))
  clear hb2
  replace KX := zq (KX.out.chg Y2.out (by omega))
  replace KY := zq (KY.out.chg Y2.out (by omega))
  replace DX := zq (HX.out.ex Ew2.out)
  replace DXX := zq (HX2.out.ex Ew2.out)
  replace DY := zq (HY.out.ex Ew2.out)
  replace DYY := zq (HY2.out.ex Ew2.out)
  obtain ⟨qX0, qX1⟩ := KX.out.c2
  have jX := KX.out.lt
  obtain ⟨qY0, qY1⟩ := KY.out.c2
  have jY := KY.out.lt
  go_wp2
  go_ret
  exact ⟨rfl, Ew2.out⟩

set_option maxHeartbeats 2000000 in
theorem tableSameS_c (x y : TableD) (A : Option Addr) (c : Nat) (B : Option Addr) (d : Nat) (A' : Option Addr) (c' : Nat) (B' : Option Addr) (d' : Nat) (w : World) (hx : Rd w A x.buckets) (hy : Rd w B x.frames) (hx' : Rd w A' y.buckets) (hy' : Rd w B' y.frames)
  (hn : x.buckets.length ≤ 1048576) (hm : x.frames.length ≤ 1048576) (hn' : y.buckets.length ≤ 1048576) (hm' : y.frames.length ≤ 1048576) :
  Calls Tryz.prog 43 #[.agg #[.slice A x.buckets.length c, .slice B x.frames.length d], .agg #[.slice A' y.buckets.length c', .slice B' y.frames.length d']] w fun r w' => r = .returned (.bool (eqB x y)) ∧ Ex w w' := by
 have HE := zq (table_eq x y)
 have HX := zq hx
 have HY := zq hy
 have HX2 := zq hx'
 have HY2 := zq hy'
 clear hx hy hx' hy'
 cases h1 : ((x.buckets.length : Int) != (y.buckets.length : Int))
 rotate_left
 ·go_enter Tryz.func43, Tryz.ntmps43
  go_wp2
  go_ret
  exact ⟨ret_bool (by rw [eq_comm, eqB_false, Ne, HE.out]; intro hh; rw [hh.1] at h1; simp at h1), (by with_reducible repeat' (first | exact Ex.refl _ | refine Ex.alloc ?_ _ | refine Ex.drew ?_ | refine Ex.put ?_ (by omega) _))⟩
 cases h2 : ((x.frames.length : Int) != (y.frames.length : Int))
 rotate_left
 ·go_enter Tryz.func43, Tryz.ntmps43
  go_wp2
  go_ret
  exact ⟨ret_bool (by rw [eq_comm, eqB_false, Ne, HE.out]; intro hh; rw [hh.2] at h2; simp at h2), (by with_reducible repeat' (first | exact Ex.refl _ | refine Ex.alloc ?_ _ | refine Ex.drew ?_ | refine Ex.put ?_ (by omega) _))⟩
 have hl1 : x.buckets.length = y.buckets.length := by simp at h1; omega
 have hl2 : x.frames.length = y.frames.length := by simp at h2; omega
 clear h1 h2
 obtain ⟨n, hn1⟩ : ∃ n, n = x.buckets.length := ⟨_, rfl⟩
 obtain ⟨m, hm1⟩ : ∃ m, m = x.frames.length := ⟨_, rfl⟩
 have h3 : y.buckets.length = n := by omega
 have h4 : y.frames.length = m := by omega
 rw [h3, h4, ← hn1, ← hm1]
 have hn2 : n ≤ 1048576 := by omega
 have hm2 : m ≤ 1048576 := by omega
 have HN1 := zq hn1
 have HM1 := zq hm1
 have HN2 := zq h3.symm
 have HM2 := zq h4.symm
 clear hn hm hn' hm' hl1 hl2 hn1 hm1 h3 h4
 go_enter Tryz.func43, Tryz.ntmps43
 go_wp2
 obtain ⟨w0, hw0⟩ : ∃ w0 : World, w0 = (w.alloc (.cells #[.slice A n c, .slice B m d] 26)).alloc (.cells #[.slice A' n c', .slice B' m d'] 26) := ⟨_, rfl⟩
 obtain ⟨gx, hgx⟩ : ∃ gx : Nat, gx = w.heap.size := ⟨_, rfl⟩
 obtain ⟨gy, hgy⟩ : ∃ gy : Nat, gy = w.heap.size + 1 := ⟨_, rfl⟩
 have KX : Hid (Blk w0 gx 26 [.slice A n c, .slice B m d]) := zq (by rw [hw0, hgx]; exact (Blk.new w _ _).alloc _)
 have KY : Hid (Blk w0 gy 26 [.slice A' n c', .slice B' m d']) := zq (by rw [hw0, hgy]; exact Blk.new_at _ _ _ (by simp))
 have E0 : Hid (Ex w w0) := zq (by rw [hw0]; exact ((Ex.refl w).alloc _).alloc _)
 rw [← hw0, ← hgy, ← hgx]
 clear hw0 hgy hgx
 go_loopw [5] (fun i wr => ∃ k : Nat, k ≤ n ∧ i = .int .i64 k ∧ Ex w0 wr ∧ x.buckets.take k = y.buckets.take k) (fun i _ => n - (intOf i).toNat)
 case atStart => exact ⟨0, Nat.zero_le _, rfl, Ex.refl _, rfl⟩
 case round =>
  obtain ⟨k, hk, rfl, hbel, htk⟩ := hrel
  have HT := zq htk
  have HBEL := zq hbel
  obtain ⟨q0, q1⟩ := (KX.out.ex hbel).c2
  obtain ⟨p0, p1⟩ := (KY.out.ex hbel).c2
  have jx := (KX.out.ex hbel).lt
  have jy := (KY.out.ex hbel).lt
  clear htk hbel
  by_cases hlt : k < n
  ·obtain ⟨b1, o1, u, rfl, hb1, hxk, h0⟩ := Rd.int ((HX.out.ex E0.out).ex HBEL.out) (k := k) (by have := HN1.out; omega)
   obtain ⟨b2, o2, v, rfl, hb2, hyk, g0⟩ := Rd.int ((HX2.out.ex E0.out).ex HBEL.out) (k := k) (by have := HN2.out; omega)
   have HXK := zq hxk
   have HYK := zq hyk
   clear hxk hyk
   by_cases hxy : u = v
   ·have hne : (u != v) = false := by simpa using hxy
    have HUV := zq hxy
    clear hxy
    go_wp2_with fail
    go_quiet (fail)
    go_wp2
    go_roundw
    case rel => exact ⟨k + 1, by omega, by go_num, HBEL.out.drewN _, (take_eq_step HXK.out HYK.out).2 ⟨HT.out, HUV.out⟩⟩
    case measure => simp [intOf]; omega
   ·have hne : (u != v) = true := by simpa using hxy
    have HUV := zq hxy
    clear hxy
    go_wp2_with fail
    go_quiet (fail)
    go_wp2
    go_ret
    exact ⟨ret_bool (by rw [eq_comm, eqB_false, Ne, HE.out]; intro hh; exact ne_of_elem HXK.out HYK.out HUV.out hh.1), (E0.out.trans HBEL.out).drewN _⟩
  ·have HB : Hid (x.buckets = y.buckets) := zq (eq_of_take HN1.out.symm HN2.out.symm (by rw [show n = k from by omega]; exact HT.out))
   clear HT
   have hkn : ¬ (k : Int) < (n : Int) := by omega
   go_wp2
   go_loopw [6] (fun i wr => ∃ k : Nat, k ≤ m ∧ i = .int .i64 k ∧ Ex w0 wr ∧ x.frames.take k = y.frames.take k) (fun i _ => m - (intOf i).toNat)
   case atStart => exact ⟨0, Nat.zero_le _, rfl, HBEL.out, rfl⟩
   case round =>
    obtain ⟨j, hj, rfl, hbel, htk⟩ := hrel
    have HT := zq htk
    clear HBEL q0 q1 p0 p1 jx jy
    have HBEL := zq hbel
    obtain ⟨q0, q1⟩ := (KX.out.ex hbel).c2
    obtain ⟨p0, p1⟩ := (KY.out.ex hbel).c2
    have jx := (KX.out.ex hbel).lt
    have jy := (KY.out.ex hbel).lt
    clear htk hbel
    by_cases hlt : j < m
    ·obtain ⟨b1, o1, u, rfl, hb1, hxk, h0, h1, h2, h3, h4⟩ := Rd.frame ((HY.out.ex E0.out).ex HBEL.out) (k := j) (by have := HM1.out; omega)
     obtain ⟨b2, o2, v, rfl, hb2, hyk, g0, g1, g2, g3, g4⟩ := Rd.frame ((HY2.out.ex E0.out).ex HBEL.out) (k := j) (by have := HM2.out; omega)
     have HXK := zq hxk
     have HYK := zq hyk
     clear hxk hyk
     have hneq := neq_frame u v
     have hgd := guardFrame
     cases hxy : eqB u v
     ·have HUV := zq (eqB_false.1 hxy)
      go_wp2_with fail
      go_quiet (fail)
      clear hneq hgd
      go_wp2
      go_ret
      exact ⟨ret_bool (by rw [eq_comm, eqB_false, Ne, HE.out]; intro hh; exact ne_of_elem HXK.out HYK.out HUV.out hh.2), (E0.out.trans HBEL.out).drewN _⟩
     ·have HUV := zq (eqB_true.1 hxy)
      go_wp2_with fail
      go_quiet (fail)
      clear hneq hgd
      go_wp2
      go_roundw
      case rel => exact ⟨j + 1, by omega, by go_num, HBEL.out.drewN _, (take_eq_step HXK.out HYK.out).2 ⟨HT.out, HUV.out⟩⟩
      case measure => simp [intOf]; omega
    ·have hjm : ¬ (j : Int) < (m : Int) := by omega
     go_wp2
     go_ret
     exact ⟨ret_bool (by rw [eq_comm, eqB_true, HE.out]; exact ⟨HB.out, eq_of_take HM1.out.symm HM2.out.symm (by rw [show m = j from by omega]; exact HT.out)⟩), E0.out.trans HBEL.out⟩

def freeF : FrameD := ⟨false, ⟨0, 0⟩, 0, -1⟩
def noTable : TableD := ⟨[], []⟩
def newTable (f b : Int) : TableD × Bool := if (1 ≤ f ∧ f ≤ 16) ∧ (1 ≤ b ∧ b ≤ 16) then (⟨List.replicate b.toNat (-1), List.replicate f.toNat freeF⟩, true) else (noTable, false)
/-- The program's variable of an unused frame reads as its text lays it. -/
structure FreeV (w : World) : Prop where
 lt : 0 < w.heap.size
 c0 : w.cell? ⟨0, 0, none⟩ = some (.bool false)
 c1 : w.cell? ⟨0, 1, none⟩ = some (.int .i64 0)
 c2 : w.cell? ⟨0, 2, none⟩ = some (.int .i64 0)
 c3 : w.cell? ⟨0, 3, none⟩ = some (.int .i64 0)
 c4 : w.cell? ⟨0, 4, none⟩ = some (.int .i64 (-1))
theorem FreeV.ex {w w' : World} (h : FreeV w) (k : Ex w w') : FreeV w' :=
 ⟨Nat.lt_of_lt_of_le h.lt k.size, (k.cell h.lt).trans h.c0, (k.cell h.lt).trans h.c1, (k.cell h.lt).trans h.c2, (k.cell h.lt).trans h.c3, (k.cell h.lt).trans h.c4⟩

def bkB (n : Int) : Bool := decide (1 ≤ n ∧ n ≤ 16)
theorem bkB_iff {n : Int} : bkB n = true ↔ 1 ≤ n ∧ n ≤ 16 := by simp [bkB]
theorem bkB_not {n : Int} : bkB n = false ↔ ¬ (1 ≤ n ∧ n ≤ 16) := by simp [bkB]
set_option maxHeartbeats 400000 in
theorem bucketsValid_c (n : Int) (w : World) : Calls Tryz.prog 51 #[.int .i64 n] w fun r w' => r = .returned (.bool (bkB n)) ∧ w = w' := by
 by_cases h0 : 1 ≤ n
 ·go_enter Tryz.func51, Tryz.ntmps51
  go_wp2
  go_ret
  exact ⟨ret_bool (by rw [Bool.eq_iff_iff, bkB_iff]; simp [h0]), rfl⟩
 ·go_enter Tryz.func51, Tryz.ntmps51
  go_wp2
  go_ret
  exact ⟨ret_bool (by rw [Bool.eq_iff_iff, bkB_iff]; simp; omega), rfl⟩
set_option maxHeartbeats 400000 in
theorem l2Buckets_c (n : Int) (w : World) : Calls Tryz.prog 72 #[.int .i64 n] w fun r w' => r = .returned (.bool (bkB n)) ∧ w = w' := by
 by_cases h0 : 1 ≤ n
 ·go_enter Tryz.func72, Tryz.ntmps72
  go_wp2
  go_ret
  exact ⟨ret_bool (by rw [Bool.eq_iff_iff, bkB_iff]; simp [h0]), rfl⟩
 ·go_enter Tryz.func72, Tryz.ntmps72
  go_wp2
  go_ret
  exact ⟨ret_bool (by rw [Bool.eq_iff_iff, bkB_iff]; simp; omega), rfl⟩

set_option maxHeartbeats 4000000 in
theorem newTableS_c (f b : Int) (w : World) : Calls Tryz.prog 85 #[.int .i64 f, .int .i64 b] w
  fun r w' => ∃ A c B d, r = .returned (.tuple #[.agg #[.slice A (newTable f b).1.buckets.length c, .slice B (newTable f b).1.frames.length d], .bool (newTable f b).2]) ∧ Fr 3 w' w.heap.size A c (newTable f b).1.buckets ∧ Fr 45 w' w.heap.size B d (newTable f b).1.frames ∧ Ex w w' := by
 by_cases hbad : (1 ≤ f ∧ f ≤ 16) ∧ (1 ≤ b ∧ b ≤ 16)
 rotate_left
 ·have e : newTable f b = (noTable, false) := if_neg hbad
  rw [e]
  clear e
  have fin : ∀ w' : World, Ex w w' → ∃ A c B d, (Ending.returned (.tuple #[.agg #[.slice none 0 0, .slice none 0 0], .bool false])) = .returned (.tuple #[.agg #[.slice A noTable.buckets.length c, .slice B noTable.frames.length d], .bool false]) ∧ Fr 3 w' w.heap.size A c noTable.buckets ∧ Fr 45 w' w.heap.size B d noTable.frames ∧ Ex w w' := fun w' h => ⟨none, 0, none, 0, rfl, Fr.none_ _ _ _ _, Fr.none_ _ _ _ _, h⟩
  have FIN := zq fin
  clear fin
  by_cases h1 : f < 1
  ·go_enter Tryz.func85, Tryz.ntmps85
   go_wp2
   exact bodyPost_ret (v := .tuple #[.agg #[.slice none 0 0, .slice none 0 0], .bool false]) (by simp [results, Tryz.results85, go_sem]) rfl (FIN.out _ (by with_reducible repeat' (first | exact Ex.refl _ | refine Ex.alloc ?_ _ | refine Ex.drew ?_ | refine Ex.put ?_ (by omega) _)))
  by_cases h2 : 16 < f
  ·go_enter Tryz.func85, Tryz.ntmps85
   go_wp2
   exact bodyPost_ret (v := .tuple #[.agg #[.slice none 0 0, .slice none 0 0], .bool false]) (by simp [results, Tryz.results85, go_sem]) rfl (FIN.out _ (by with_reducible repeat' (first | exact Ex.refl _ | refine Ex.alloc ?_ _ | refine Ex.drew ?_ | refine Ex.put ?_ (by omega) _)))
  have h3 : bkB b = false := bkB_not.2 (by omega)
  have CB := zq (fun w => l2Buckets_c b w)
  rw [h3] at CB
  have h1' : 1 ≤ f := by omega
  have h2' : f ≤ 16 := by omega
  clear h3 hbad
  go_enter Tryz.func85, Tryz.ntmps85
  go_wp2_with fail
  refine (CB.out _).mono ?_
  rintro r w1 ⟨rfl, rfl⟩
  go_wp2
  exact bodyPost_ret (v := .tuple #[.agg #[.slice none 0 0, .slice none 0 0], .bool false]) (by simp [results, Tryz.results85, go_sem]) rfl (FIN.out _ (by with_reducible repeat' (first | exact Ex.refl _ | refine Ex.alloc ?_ _ | refine Ex.drew ?_ | refine Ex.put ?_ (by omega) _)))
 have e : newTable f b = (⟨List.replicate b.toNat (-1), List.replicate f.toNat freeF⟩, true) := if_pos hbad
 rw [e]
 clear e
 obtain ⟨n, rfl⟩ := Int.eq_ofNat_of_zero_le (show 0 ≤ f by omega)
 obtain ⟨m, rfl⟩ := Int.eq_ofNat_of_zero_le (show 0 ≤ b by omega)
 have hn1 : 1 ≤ n := by omega
 have hn2 : n ≤ 16 := by omega
 have hm1 : 1 ≤ m := by omega
 have hm2 : m ≤ 16 := by omega
 simp only [Int.toNat_natCast]
 have hb3 : bkB (m : Int) = true := bkB_iff.2 (by omega)
 have CB := zq (fun w => l2Buckets_c (m : Int) w)
 rw [hb3] at CB
 clear hb3 hbad
 obtain ⟨i0, hi, hz0, hz1, hz2⟩ := info_parts infoMInt
 obtain ⟨j0, hj, hy0, hy1, hy2⟩ := info_parts infoMFrame
 have HLB : Hid ((List.replicate m (-1 : Int)).length = m) := zq List.length_replicate
 have HLF : Hid ((List.replicate n freeF).length = n) := zq List.length_replicate
 go_enter Tryz.func85, Tryz.ntmps85
 go_wp2_with fail
 refine (CB.out _).mono ?_
 rintro r w1 ⟨rfl, rfl⟩
 go_wp2
 obtain ⟨w0, hw0⟩ : ∃ w0 : World, w0 = (w.alloc (.cells #[.slice none 0 0, .slice none 0 0] 26)).alloc (.cells #[.slice none 0 0, .slice none 0 0] 26) := ⟨_, rfl⟩
 obtain ⟨gR, hgR⟩ : ∃ g : Nat, g = w.heap.size := ⟨_, rfl⟩
 obtain ⟨gO, hgO⟩ : ∃ g : Nat, g = w.heap.size + 1 := ⟨_, rfl⟩
 have KR0 : Hid (Blk w0 gR 26 [.slice none 0 0, .slice none 0 0]) := zq (by rw [hw0, hgR]; exact (Blk.new w _ _).alloc _)
 have KO0 : Hid (Blk w0 gO 26 [.slice none 0 0, .slice none 0 0]) := zq (by rw [hw0, hgO]; exact Blk.new_at _ _ _ (by simp))
 have E0 : Hid (Ex w w0) := zq (by rw [hw0]; exact ((Ex.refl w).alloc _).alloc _)
 have HG : Hid (gR = w.heap.size ∧ gO = w.heap.size + 1) := zq ⟨hgR, hgO⟩
 have HS0 : Hid (w.heap.size + 2 ≤ w0.heap.size) := zq (by rw [hw0]; simp)
 rw [← hw0]
 try rw [← hgO]
 try rw [← hgR]
 have hRO : ¬ gR = gO := by omega
 have hOR : ¬ gO = gR := by omega
 clear hw0 hgR hgO
 go_loopw [7] (fun i wr => ∃ (k : Nat) (A : Option Addr) (c : Nat), k ≤ m ∧ i = .int .i64 k ∧ Blk wr gO 26 [.slice A k c, .slice none 0 0] ∧ Blk wr gR 26 [.slice none 0 0, .slice none 0 0] ∧ Fr 3 wr (w.heap.size + 2) A c (List.replicate k (-1 : Int)) ∧ Ex w wr ∧ w.heap.size + 2 ≤ wr.heap.size) (fun i _ => m - (intOf i).toNat)
 case atStart => exact ⟨0, none, 0, Nat.zero_le _, rfl, KO0.out, KR0.out, Fr.none_ _ _ _ _, E0.out, HS0.out⟩
 case round =>
  obtain ⟨k, A, c, hk, rfl, hko, hkr, hf, hex, hsz⟩ := hrel
  have KO := zq hko
  have KR := zq hkr
  have HF := zq hf
  have HE := zq hex
  have HSZ := zq hsz
  clear hko hkr hf hex hsz
  by_cases hlt : k < m
  ·obtain ⟨q0, q1⟩ := KO.out.c2
   have jO := KO.out.lt
   have zO := KO.out.frozen
   have h63 : k + 1 ≤ maxLen := by simp [maxLen]; omega
   have hby : (k + 1) * 8 ≤ 140737488355328 := by omega
   have hlk : k = (List.replicate k (-1 : Int)).length := List.length_replicate.symm
   have HLK := zq hlk
   clear hlk
   go_wp2_with (at_builtin; refine wpList_append_fr (α := Int) rfl _ _ 23 rfl 3 i0 _ 8 (w.heap.size + 2) Tryz.underlying23 hi hz0 hz1 hz2 rfl A c k (List.replicate k (-1 : Int)) HLK.out rfl (HF.out.alloc _) _ 1 1 [(-1 : Int)] rfl rfl (Bk.new wr 3 [(-1 : Int)]).rd h63 hby (Nat.le_trans HSZ.out (by simp)) ?_)
   intro A6 c6 w6 ha
   have HA := zq ha
   have KO6 : Hid (Blk w6 gO 26 [.slice A k c, .slice none 0 0]) := zq ((KO.out.alloc _).grown HA.out.grown (fun e => by have := HF.out.row _ e.symm; have := HG.out; omega))
   have KR6 : Hid (Blk w6 gR 26 [.slice none 0 0, .slice none 0 0]) := zq ((KR.out.alloc _).grown HA.out.grown (fun e => by have := HF.out.row _ e.symm; have := HG.out; omega))
   have HE6 : Hid (Ex w w6) := zq ((HE.out.alloc _).grown HA.out.grown (fun g hg => by have := HF.out.row _ hg; omega))
   have HR6 := zq HA.out.fr.row
   have hw6 : wr.heap.size ≤ w6.heap.size := by have := HA.out.grown.size; simp at this; omega
   clear ha q0 q1 jO zO
   obtain ⟨q0, q1⟩ := KO6.out.c2
   have jO := KO6.out.lt
   have zO := KO6.out.frozen
   go_wp2
   go_roundw
   case rel => exact ⟨k + 1, A6, c6, by omega, by go_num, KO6.out.set 0 _, KR6.out.far (fun e => hRO e) _, by rw [List.replicate_succ']; exact HA.out.fr.put (fun b hb => by have := HR6.out b hb; have := HG.out; omega) _, HE6.out.put (by have := HG.out; omega) _, by have := HSZ.out; simp; omega⟩
   case measure => simp [intOf]; omega
  ·obtain rfl : k = m := by omega
   have HWA := zq HF.out.row
   clear KO0 KR0 E0 HS0
   go_wp2
   go_loopw [8] (fun i wr' => ∃ (j : Nat) (B : Option Addr) (d : Nat), j ≤ n ∧ i = .int .i64 j ∧ Blk wr' gO 26 [.slice A k c, .slice B j d] ∧ Blk wr' gR 26 [.slice none 0 0, .slice none 0 0] ∧ Fr 3 wr' (w.heap.size + 2) A c (List.replicate k (-1 : Int)) ∧ Fr 45 wr' (w.heap.size + 2) B d (List.replicate j freeF) ∧ (∀ b, rowOf A c = some b → rowOf B d ≠ some b) ∧ Ex w wr' ∧ w.heap.size + 2 ≤ wr'.heap.size) (fun i _ => n - (intOf i).toNat)
   case atStart => exact ⟨0, none, 0, Nat.zero_le _, rfl, KO.out, KR.out, HF.out, Fr.none_ _ _ _ _, fun b hb => by simp [rowOf], HE.out, HSZ.out⟩
   case round =>
    clear KO KR HF HE HSZ HWA
    obtain ⟨j, B, d, hj2, rfl, hko, hkr, hf, hfb, hab, hex, hsz⟩ := hrel
    have KO := zq hko
    have KR := zq hkr
    have HF := zq hf
    have HFB := zq hfb
    have HAB := zq hab
    have HE := zq hex
    have HSZ := zq hsz
    clear hko hkr hf hfb hab hex hsz
    obtain ⟨q0, q1⟩ := KO.out.c2
    have jO := KO.out.lt
    have zO := KO.out.frozen
    by_cases hlt : j < n
    ·have h63 : j + 1 ≤ maxLen := by simp [maxLen]; omega
     have hby : (j + 1) * 40 ≤ 140737488355328 := by omega
     have hlk : j = (List.replicate j freeF).length := List.length_replicate.symm
     have HLK := zq hlk
     clear hlk
     rename_i wr'
     go_wp2_with (at_builtin; refine wpList_append_fr (α := FrameD) rfl _ _ 24 rfl 45 j0 _ 40 (w.heap.size + 2) Tryz.underlying24 hj hy0 hy1 hy2 rfl B d j (List.replicate j freeF) HLK.out rfl (HFB.out.alloc _) _ 1 1 [freeF] rfl rfl (Bk.new _ 45 [freeF]).rd h63 hby (Nat.le_trans HSZ.out (by simp)) ?_)
     intro A6 c6 w6 ha
     have HA := zq ha
     have KO6 : Hid (Blk w6 gO 26 [.slice A k c, .slice B j d]) := zq ((KO.out.alloc _).grown HA.out.grown (fun e => by have := HFB.out.row _ e.symm; have := HG.out; omega))
     have KR6 : Hid (Blk w6 gR 26 [.slice none 0 0, .slice none 0 0]) := zq ((KR.out.alloc _).grown HA.out.grown (fun e => by have := HFB.out.row _ e.symm; have := HG.out; omega))
     have HE6 : Hid (Ex w w6) := zq ((HE.out.alloc _).grown HA.out.grown (fun g hg => by have := HFB.out.row _ hg; omega))
     have HF6 : Hid (Fr 3 w6 (w.heap.size + 2) A c (List.replicate k (-1 : Int))) := zq ((HF.out.alloc _).grown HA.out.grown (fun b hb => by
      by_cases hc : c = 0
      ·exact .inl hc
      ·refine .inr fun e => ?_
       subst e
       exact HAB.out b (rowOf_some (by omega)) hb))
     have HAB6 : Hid (∀ b, rowOf A c = some b → rowOf A6 c6 ≠ some b) := zq (fun b hb e => by
      rcases HA.out.row with h | h
      ·rw [h] at e; exact HAB.out b hb e
      ·rw [h] at e; injection e with e; have := HF.out.row b hb; simp at e; omega)
     have HR6 := zq HA.out.fr.row
     have HRA := zq HF6.out.row
     have hw6 := HA.out.grown.size
     simp at hw6
     clear ha q0 q1 jO zO
     obtain ⟨q0, q1⟩ := KO6.out.c2
     have jO := KO6.out.lt
     have zO := KO6.out.frozen
     go_wp2
     go_roundw
     case rel => exact ⟨j + 1, A6, c6, by omega, by go_num, KO6.out.set 1 _, KR6.out.far (fun e => hRO e) _, HF6.out.put (fun b hb => by have := HRA.out b hb; have := HG.out; omega) _, by rw [List.replicate_succ']; exact HA.out.fr.put (fun b hb => by have := HR6.out b hb; have := HG.out; omega) _, HAB6.out, HE6.out.put (by have := HG.out; omega) _, by have := HSZ.out; simp; omega⟩
     case measure => simp [intOf]; omega
    ·obtain rfl : j = n := by omega
     obtain ⟨r0, r1⟩ := KR.out.c2
     have jR := KR.out.lt
     have zR := KR.out.frozen
     have HRA := zq HF.out.row
     have HRB := zq HFB.out.row
     go_wp2
     exact bodyPost_ret (v := .tuple #[.agg #[.slice A k c, .slice B j d], .bool true]) (by simp [results, Tryz.results85, go_sem, r0, r1]) rfl
      ⟨A, c, B, d, by rw [HLB.out, HLF.out], Fr.mono (B := w.heap.size + 2) (by with_reducible repeat' (first | exact HF.out | refine Fr.put ?_ (fun b hb => by have := HRA.out b hb; have := HG.out; omega) _)) (by omega), Fr.mono (B := w.heap.size + 2) (by with_reducible repeat' (first | exact HFB.out | refine Fr.put ?_ (fun b hb => by have := HRB.out b hb; have := HG.out; omega) _)) (by omega), (HE.out.put (by have := HG.out; omega) _).put (by have := HG.out; omega) _⟩

end Go.Proofs.YtbdlpbladpppjaaGreatDoor
namespace Go.Proofs.YtbdlpbladpppjaaGreatDoor
open Go.ChangeShapes Go.WideShapes Go.ChangeAt Go.RowKit
set_option linter.unusedVariables false
set_option maxRecDepth 100000

set_option maxHeartbeats 400000 in
theorem l1Space_c (n : Int) (w : World) : Calls Tryz.prog 77 #[.int .i64 n] w fun r w' => r = .returned (.bool (inB n 16)) ∧ w = w' := by
 by_cases h0 : 0 ≤ n
 ·go_enter Tryz.func77, Tryz.ntmps77
  go_wp2
  go_ret
  exact ⟨ret_bool (by rw [Bool.eq_iff_iff, inB_true]; simp [h0]), rfl⟩
 ·go_enter Tryz.func77, Tryz.ntmps77
  go_wp2
  go_ret
  exact ⟨ret_bool (by rw [Bool.eq_iff_iff, inB_true]; simp; omega), rfl⟩

end Go.Proofs.YtbdlpbladpppjaaGreatDoor
namespace Go.Proofs.YtbdlpbladpppjaaGreatDoor
open Go.ChangeShapes Go.WideShapes Go.ChangeAt Go.RowKit
set_option linter.unusedVariables false
set_option maxRecDepth 100000

def keyB (k : KeyD) : Bool := inB k.space 16 && inB k.page 256
theorem keyB_iff {k : KeyD} : keyB k = true ↔ keyOk k := by unfold keyB keyOk inB; simp

set_option maxHeartbeats 1000000 in
theorem keyS_c (k : KeyD) (w : World) : Calls Tryz.prog 99 #[.agg #[.int .i64 k.space, .int .i64 k.page]] w fun r w' => r = .returned (.bool (keyB k)) ∧ Ex w w' := by
 unfold keyB
 have C1 := zq (fun w => l1Space_c k.space w)
 have C2 := zq (fun w => l1Page_c k.page w)
 generalize inB k.space 16 = b1 at C1 ⊢
 generalize inB k.page 256 = b2 at C2 ⊢
 cases b1
 ·go_enter Tryz.func99, Tryz.ntmps99
  go_wp2_with fail
  refine (C1.out _).mono ?_
  rintro r w1 ⟨rfl, rfl⟩
  go_wp2
  go_ret
  exact ⟨rfl, (by with_reducible repeat' (first | exact Ex.refl _ | refine Ex.alloc ?_ _ | refine Ex.drew ?_ | refine Ex.put ?_ (by omega) _))⟩
 ·go_enter Tryz.func99, Tryz.ntmps99
  go_wp2_with fail
  refine (C1.out _).mono ?_
  rintro r w1 ⟨rfl, rfl⟩
  go_wp2_with fail
  refine (C2.out _).mono ?_
  rintro r w1 ⟨rfl, rfl⟩
  go_wp2
  go_ret
  exact ⟨rfl, (by with_reducible repeat' (first | exact Ex.refl _ | refine Ex.alloc ?_ _ | refine Ex.drew ?_ | refine Ex.put ?_ (by omega) _))⟩
set_option maxHeartbeats 1000000 in
theorem keyI_c (k : KeyD) (w : World) : Calls Tryz.prog 52 #[.agg #[.int .i64 k.space, .int .i64 k.page]] w fun r w' => r = .returned (.bool (keyB k)) ∧ Ex w w' := by
 unfold keyB
 have C1 := zq (fun w => within_c k.space 16 w)
 have C2 := zq (fun w => within_c k.page 256 w)
 generalize inB k.space 16 = b1 at C1 ⊢
 generalize inB k.page 256 = b2 at C2 ⊢
 cases b1
 ·go_enter Tryz.func52, Tryz.ntmps52
  go_wp2_with fail
  refine (C1.out _).mono ?_
  rintro r w1 ⟨rfl, rfl⟩
  go_wp2
  go_ret
  exact ⟨rfl, (by with_reducible repeat' (first | exact Ex.refl _ | refine Ex.alloc ?_ _ | refine Ex.drew ?_ | refine Ex.put ?_ (by omega) _))⟩
 ·go_enter Tryz.func52, Tryz.ntmps52
  go_wp2_with fail
  refine (C1.out _).mono ?_
  rintro r w1 ⟨rfl, rfl⟩
  go_wp2_with fail
  refine (C2.out _).mono ?_
  rintro r w1 ⟨rfl, rfl⟩
  go_wp2
  go_ret
  exact ⟨rfl, (by with_reducible repeat' (first | exact Ex.refl _ | refine Ex.alloc ?_ _ | refine Ex.drew ?_ | refine Ex.put ?_ (by omega) _))⟩

theorem hash_parts {s p n : Int} (h1 : 0 ≤ s) (h2 : s < 16) (h3 : 0 ≤ p) (h4 : p < 256) (hn : 1 ≤ n) (hm : n ≤ 16) : 0 ≤ (s * 256 + p) * 2654435761 % 4294967296 * n ∧ (s * 256 + p) * 2654435761 % 4294967296 * n ≤ 68719476736 ∧ 0 ≤ (s * 256 + p) * 2654435761 % 4294967296 * n / 4294967296 ∧ (s * 256 + p) * 2654435761 % 4294967296 * n / 4294967296 ≤ 16 := by
 obtain ⟨x, hx⟩ : ∃ x, x = (s * 256 + p) * 2654435761 % 4294967296 := ⟨_, rfl⟩
 rw [← hx]
 have g1 : 0 ≤ x ∧ x ≤ 4294967296 := by omega
 have g2 : 0 ≤ x * n := Int.mul_nonneg g1.1 (by omega)
 have g3 : x * n ≤ 4294967296 * 16 := Int.mul_le_mul g1.2 hm (by omega) (by omega)
 obtain ⟨y, hy⟩ : ∃ y, y = x * n := ⟨_, rfl⟩
 rw [← hy] at g2 g3 ⊢
 omega
set_option maxHeartbeats 1000000 in
theorem hashS_c (k : KeyD) (n : Int) (w : World) (hk : keyOk k) (hn : 1 ≤ n) (hm : n ≤ 16) : Calls Tryz.prog 75 #[.agg #[.int .i64 k.space, .int .i64 k.page], .int .i64 n] w fun r w' => r = .returned (.int .i64 (hashK k n)) ∧ Ex w w' := by
 obtain ⟨⟨h1, h2⟩, h3, h4⟩ := hk
 obtain ⟨s, p⟩ := k
 dsimp only at h1 h2 h3 h4
 go_enter Tryz.func75, Tryz.ntmps75
 go_wp2
 go_ret
 obtain ⟨g1, g2, g3, g4⟩ := hash_parts h1 h2 h3 h4 hn hm
 refine ⟨ret_int ?_, (by with_reducible repeat' (first | exact Ex.refl _ | refine Ex.alloc ?_ _ | refine Ex.drew ?_ | refine Ex.put ?_ (by omega) _))⟩
 rw [IntWalk.wrap64_in ((s * 256 + p) * 2654435761 % 4294967296 * n) ⟨by omega, by omega⟩, Int.tdiv_eq_ediv_of_nonneg g1, IntWalk.wrap64_in _ ⟨by omega, by omega⟩]
 rfl
set_option maxHeartbeats 1000000 in
theorem hashI_c (k : KeyD) (n : Int) (w : World) (hk : keyOk k) (hn : 1 ≤ n) (hm : n ≤ 16) : Calls Tryz.prog 54 #[.agg #[.int .i64 k.space, .int .i64 k.page], .int .i64 n] w fun r w' => r = .returned (.int .i64 (hashK k n)) ∧ Ex w w' := by
 obtain ⟨⟨h1, h2⟩, h3, h4⟩ := hk
 obtain ⟨s, p⟩ := k
 dsimp only at h1 h2 h3 h4
 go_enter Tryz.func54, Tryz.ntmps54
 go_wp2
 go_ret
 obtain ⟨g1, g2, g3, g4⟩ := hash_parts h1 h2 h3 h4 hn hm
 refine ⟨ret_int ?_, (by with_reducible repeat' (first | exact Ex.refl _ | refine Ex.alloc ?_ _ | refine Ex.drew ?_ | refine Ex.put ?_ (by omega) _))⟩
 rw [IntWalk.u64_in ((s * 256 + p) * 2654435761 % 4294967296 * n) ⟨by omega, by omega⟩, IntWalk.wrap64_in _ ⟨by omega, by omega⟩]
 rfl

def frameB (f : FrameD) : Bool := if f.used then keyB f.key && inB f.rights 8 else eqB f freeF
theorem frameB_iff {f : FrameD} : frameB f = true ↔ frameOk f := by
 unfold frameB frameOk
 cases hu : f.used
 ·simp [freeF, eqB]
  exact decide_eq_true_iff
 ·simp [keyB_iff, inB]
set_option maxHeartbeats 1000000 in
theorem l3Frame_c (f : FrameD) (w : World) : Calls Tryz.prog 73 #[.agg #[.bool f.used, .int .i64 f.key.space, .int .i64 f.key.page, .int .i64 f.rights, .int .i64 f.next]] w fun r w' => r = .returned (.bool (frameB f)) ∧ Ex w w' := by
 unfold frameB
 have hz := eql_frame f freeF
 simp only [freeF] at hz
 have C1 := zq (fun w => keyS_c f.key w)
 have C2 := zq (fun w => rightsS_c f.rights w)
 cases hu : f.used
 ·simp only [Bool.false_eq_true, if_false]
  generalize hq : eqB f freeF = q
  rw [show (⟨false, ⟨0, 0⟩, 0, -1⟩ : FrameD) = freeF from rfl, hq] at hz
  rw [hu] at hz
  clear hq
  go_enter Tryz.func73, Tryz.ntmps73
  go_wp2
  go_ret
  exact ⟨rfl, (by with_reducible repeat' (first | exact Ex.refl _ | refine Ex.alloc ?_ _ | refine Ex.drew ?_ | refine Ex.put ?_ (by omega) _))⟩
 ·simp only [if_true]
  clear hz
  generalize keyB f.key = b1 at C1 ⊢
  generalize inB f.rights 8 = b2 at C2 ⊢
  cases b1
  ·go_enter Tryz.func73, Tryz.ntmps73
   go_wp2_with fail
   refine (C1.out _).mono ?_
   rintro r w1 ⟨rfl, he⟩
   have HE := zq (((Ex.refl w).alloc _).trans he)
   clear he
   go_wp2
   go_ret
   exact ⟨rfl, (ze HE.out)⟩
  ·go_enter Tryz.func73, Tryz.ntmps73
   go_wp2_with fail
   refine name_calls ?_; intro v1 hv1
   have X1 : Hid (Chg (0) (0) w v1) := zx hv1
   have t1 := X1.out.size
   have Ev1 := zq ((Ex.refl w).chg X1.out (by omega))
   have KX : Hid (Blk v1 (w.heap.size) 45 [.bool true, .int .i64 f.key.space, .int .i64 f.key.page, .int .i64 f.rights, .int .i64 f.next]) := zk hv1
   have lX : w.heap.size < v1.heap.size := KX.out.lt
   clear hv1
   refine (C1.out _).mono ?_; rintro r w1 ⟨rfl, hb1⟩
   have Y1 := zq (Chg.of_ex hb1)
   have s1 := Y1.out.size
   have Ew1 := zq (Ev1.out.chg Y1.out (by omega))
   clear hb1
   replace KX := zq (KX.out.chg Y1.out (by omega))
   obtain ⟨qX0, qX1, qX2, qX3, qX4⟩ := KX.out.c5
   have jX := KX.out.lt
   go_wp2_with fail
   refine (C2.out _).mono ?_
   rintro r w2 ⟨rfl, rfl⟩
   go_wp2
   go_ret
   exact ⟨rfl, (ze Ew1.out)⟩
end Go.Proofs.YtbdlpbladpppjaaGreatDoor
namespace Go.Proofs.YtbdlpbladpppjaaGreatDoor
open Go.ChangeShapes Go.WideShapes Go.ChangeAt Go.RowKit
open Rec (sz cs)
set_option linter.unusedVariables false
set_option maxRecDepth 100000



theorem infoOwn : (Tryz.prog.info? 93).map (fun i => (i.zero, i.size, i.bytes)) = some (some (.agg #[.int .i64 0, .int .i64 0]), 2, 16) := by kernel_rfl


theorem tags_eq (x y : TagsD) : x = y ↔ x.count = y.count ∧ x.next = y.next ∧ x.round = y.round ∧ x.owns = y.owns := by
 cases x; cases y; simp

end Go.Proofs.YtbdlpbladpppjaaGreatDoor
namespace Go.Proofs.YtbdlpbladpppjaaGreatDoor
open Go.ChangeShapes Go.WideShapes Go.ChangeAt Go.RowKit
open Rec (sz cs)

theorem fieldsOwn : Tryz.prog.underlying 93 = some (.struct (Tryz.prog.fieldsOf 93)) := by kernel_rfl
theorem heldOwn : Tryz.prog.stoodInHeld 93 = false := by kernel_rfl
theorem guardOwn : Tryz.prog.eqGuardType Tryz.prog.depth 93 = false := by kernel_rfl
theorem eqIn_own (x y : OwnD) (w : World) : (Op.equalIn 10000 93 (.agg #[.int .i64 x.space, .int .i64 x.tag]) (.agg #[.int .i64 y.space, .int .i64 y.tag])).run Tryz.prog w = .ok (eqB x y) w := by
 obtain ⟨a, b⟩ := x
 obtain ⟨c, d⟩ := y
 rw [run_equalIn_agg w 9999 _ _ _ fieldsOwn heldOwn]
 simp [go_sem, Tryz.underlying93]
 by_cases h1 : a = c <;> by_cases h2 : b = d <;> simp [eqB, h1, h2]
theorem neq_own (x y : OwnD) (w : World) : (binOp .neq 93 (.agg #[.int .i64 x.space, .int .i64 x.tag]) (.agg #[.int .i64 y.space, .int .i64 y.tag])).run Tryz.prog w = .ok (.bool (!eqB x y)) w := by
 rw [run_neq_struct, eqIn_own]; rfl
end Go.Proofs.YtbdlpbladpppjaaGreatDoor
namespace Go.Proofs.YtbdlpbladpppjaaGreatDoor
open Go.ChangeShapes Go.WideShapes Go.ChangeAt Go.RowKit
open Rec (sz cs)
set_option linter.unusedVariables false
set_option maxRecDepth 100000

set_option maxHeartbeats 400000 in
theorem equalOwn_c (A B : Option Addr) (c d : Nat) (xs ys : List OwnD) (w : World) (hx : Rd w A xs) (hy : Rd w B ys) (hn : xs.length ≤ 1048576) (hm : ys.length ≤ 1048576) :
   Calls Tryz.prog 71 #[.slice A xs.length c, .slice B ys.length d] w
   fun r w' => r = .returned (.bool (eqB xs ys)) ∧ Ex w w' := by
 by_cases hl : xs.length = ys.length
 ·obtain ⟨n, hn1⟩ : ∃ n, n = xs.length := ⟨_, rfl⟩
  obtain ⟨m, hm1⟩ : ∃ m, m = ys.length := ⟨_, rfl⟩
  rw [← hn1, ← hm1]
  obtain rfl : n = m := by omega
  have hn' : n ≤ 1048576 := by omega
  have HX := zq hn1
  have HY := zq hm1
  have H1 := zq hx
  have H2 := zq hy
  clear hn hm hn1 hm1 hx hy hl
  go_enter Tryz.func71, Tryz.ntmps71
  go_wp2
  go_loopw [13] (fun i wr => ∃ k : Nat, k ≤ n ∧ i = .int .i64 k ∧ Ex w wr ∧ xs.take k = ys.take k) (fun i _ => n - (intOf i).toNat)
  case atStart => exact ⟨0, Nat.zero_le _, rfl, Ex.refl _, rfl⟩
  case round =>
   obtain ⟨k, hk, rfl, hbel, htk⟩ := hrel
   have HT := zq htk
   clear htk
   by_cases hlt : k < n
   ·obtain ⟨b1, o1, x, rfl, hb1, hxk, h1, h2⟩ := Rd.own (H1.out.ex hbel) (k := k) (by have := HX.out; omega)
    obtain ⟨b2, o2, y, rfl, hb2, hyk, h3, h4⟩ := Rd.own (H2.out.ex hbel) (k := k) (by have := HY.out; omega)
    have HXK := zq hxk
    have HYK := zq hyk
    clear hxk hyk
    have hneq := neq_own x y
    have hgd := guardOwn
    cases hxy : eqB x y
    ·have hne : x ≠ y := eqB_false.1 hxy
     go_wp2_with fail
     go_quiet (fail)
     clear hneq hgd
     go_wp2
     go_ret
     exact ⟨ret_bool (by rw [eq_comm, eqB_false]; exact ne_of_elem HXK.out HYK.out hne), hbel.drewN _⟩
    ·have HE := zq (eqB_true.1 hxy)
     go_wp2_with fail
     go_quiet (fail)
     clear hneq hgd
     go_wp2
     go_roundw
     case rel => exact ⟨k + 1, by omega, by go_num, hbel.drewN _, (take_eq_step HXK.out HYK.out).2 ⟨HT.out, HE.out⟩⟩
     case measure => simp [intOf]; omega
   ·go_wp2
    go_ret
    exact ⟨ret_bool (by rw [eq_comm, eqB_true]; exact eq_of_take HX.out.symm HY.out.symm (by rw [show n = k from by omega]; exact HT.out)), hbel⟩
 ·have hne : ((xs.length : Int) != (ys.length : Int)) = true := by simp; omega
  go_enter Tryz.func71, Tryz.ntmps71
  go_wp2
  go_ret
  exact ⟨ret_bool (by rw [eq_comm, eqB_false]; intro h; exact hl (by rw [h])), Ex.refl _⟩

set_option maxHeartbeats 400000 in
theorem tagsSameI_c (x y : TagsD) (A B : Option Addr) (c d : Nat) (w : World) (hx : Rd w A x.owns) (hy : Rd w B y.owns) (hn : x.owns.length ≤ 1048576) (hm : y.owns.length ≤ 1048576) :
  Calls Tryz.prog 42 #[.agg #[.int .i64 x.count, .int .i64 x.next, .int .i64 x.round, .slice A x.owns.length c], .agg #[.int .i64 y.count, .int .i64 y.next, .int .i64 y.round, .slice B y.owns.length d]] w fun r w' => r = .returned (.bool (eqB x y)) ∧ Ex w w' := by
 have HE := zq (tags_eq x y)
 obtain ⟨a1, b1, d1, xs⟩ := x
 obtain ⟨a2, b2, d2, ys⟩ := y
 simp only at HE hx hy hn hm ⊢
 have H1 := zq hx
 have H2 := zq hy
 have H3 := zq hn
 have H4 := zq hm
 clear hx hy hn hm
 cases h1 : (a1 == a2)
 ·go_enter Tryz.func42, Tryz.ntmps42
  go_wp2
  go_ret
  exact ⟨ret_bool (by rw [eq_comm, eqB_false, Ne, HE.out]; simp_all), ((Ex.refl _).alloc _).alloc _⟩
 cases h2 : (b1 == b2)
 ·go_enter Tryz.func42, Tryz.ntmps42
  go_wp2
  go_ret
  exact ⟨ret_bool (by rw [eq_comm, eqB_false, Ne, HE.out]; simp_all), ((Ex.refl _).alloc _).alloc _⟩
 cases h3 : (d1 == d2)
 ·go_enter Tryz.func42, Tryz.ntmps42
  go_wp2
  go_ret
  exact ⟨ret_bool (by rw [eq_comm, eqB_false, Ne, HE.out]; simp_all), ((Ex.refl _).alloc _).alloc _⟩
 have e : eqB (⟨a1, b1, d1, xs⟩ : TagsD) ⟨a2, b2, d2, ys⟩ = eqB xs ys := by
  rw [Bool.eq_iff_iff, eqB_true, eqB_true, HE.out]; simp_all
 rw [e]
 clear e HE
 go_enter Tryz.func42, Tryz.ntmps42
 go_wp2_with (go_at_call 71; go_must (refine (equalOwn_c A B c d xs ys _ ((H1.out.alloc _).alloc _) ((H2.out.alloc _).alloc _) H3.out H4.out).mono ?_); rintro r w2 ⟨rfl, hb⟩; have HEX := zq (((Ex.refl w).alloc _).alloc _ |>.trans hb); clear hb)
 go_ret
 exact ⟨rfl, HEX.out⟩

set_option maxHeartbeats 1000000 in
theorem tagsSameS_c (x y : TagsD) (A B : Option Addr) (c d : Nat) (w : World) (hx : Rd w A x.owns) (hy : Rd w B y.owns) (hn : x.owns.length ≤ 1048576) (hm : y.owns.length ≤ 1048576) :
  Calls Tryz.prog 45 #[.agg #[.int .i64 x.count, .int .i64 x.next, .int .i64 x.round, .slice A x.owns.length c], .agg #[.int .i64 y.count, .int .i64 y.next, .int .i64 y.round, .slice B y.owns.length d]] w fun r w' => r = .returned (.bool (eqB x y)) ∧ Ex w w' := by
 have HE := zq (tags_eq x y)
 obtain ⟨a1, b1, d1, xs⟩ := x
 obtain ⟨a2, b2, d2, ys⟩ := y
 simp only at HE hx hy hn hm ⊢
 cases h1 : (a1 != a2)
 rotate_left
 ·go_enter Tryz.func45, Tryz.ntmps45
  go_wp2
  go_ret
  exact ⟨ret_bool (by rw [eq_comm, eqB_false, Ne, HE.out]; simp_all), ((Ex.refl _).alloc _).alloc _⟩
 cases h2 : (b1 != b2)
 rotate_left
 ·go_enter Tryz.func45, Tryz.ntmps45
  go_wp2
  go_ret
  exact ⟨ret_bool (by rw [eq_comm, eqB_false, Ne, HE.out]; simp_all), ((Ex.refl _).alloc _).alloc _⟩
 cases h3 : (d1 != d2)
 rotate_left
 ·go_enter Tryz.func45, Tryz.ntmps45
  go_wp2
  go_ret
  exact ⟨ret_bool (by rw [eq_comm, eqB_false, Ne, HE.out]; simp_all), ((Ex.refl _).alloc _).alloc _⟩
 cases h4 : ((xs.length : Int) != (ys.length : Int))
 rotate_left
 ·go_enter Tryz.func45, Tryz.ntmps45
  go_wp2
  go_ret
  exact ⟨ret_bool (by rw [eq_comm, eqB_false, Ne, HE.out]; intro hh; rw [hh.2.2.2] at h4; simp at h4), ((Ex.refl _).alloc _).alloc _⟩
 have e : eqB (⟨a1, b1, d1, xs⟩ : TagsD) ⟨a2, b2, d2, ys⟩ = eqB xs ys := by
  rw [Bool.eq_iff_iff, eqB_true, eqB_true, HE.out]; simp_all
 rw [e]
 clear e HE
 have hl : xs.length = ys.length := by simp at h4; omega
 clear h4
 obtain ⟨n, hn1⟩ : ∃ n, n = xs.length := ⟨_, rfl⟩
 obtain ⟨m, hm1⟩ : ∃ m, m = ys.length := ⟨_, rfl⟩
 rw [← hn1, ← hm1]
 obtain rfl : n = m := by omega
 have hn' : n ≤ 1048576 := by omega
 have HX := zq hn1
 have HY := zq hm1
 have H1 := zq hx
 have H2 := zq hy
 clear hn hm hn1 hm1 hx hy hl
 go_enter Tryz.func45, Tryz.ntmps45
 go_wp2
 clear h1 h2 h3
 go_loopw [5] (fun i wr => ∃ k : Nat, k ≤ n ∧ i = .int .i64 k ∧ Ex ((w.alloc (.cells #[.int .i64 a1, .int .i64 b1, .int .i64 d1, .slice A n c] 32)).alloc (.cells #[.int .i64 a2, .int .i64 b2, .int .i64 d2, .slice B n d] 32)) wr ∧ xs.take k = ys.take k) (fun i _ => n - (intOf i).toNat)
 case atStart => exact ⟨0, Nat.zero_le _, rfl, Ex.refl _, rfl⟩
 case round =>
  obtain ⟨k, hk, rfl, hbel, htk⟩ := hrel
  obtain ⟨hbc, hbf⟩ := ex_rules hbel
  have HT := zq htk
  have HBEL := zq hbel
  clear htk hbel hbf
  by_cases hlt : k < n
  ·obtain ⟨b1, o1, x, rfl, hb1, hxk, h1, h2⟩ := Rd.own (((H1.out.alloc _).alloc _).ex HBEL.out) (k := k) (by have := HX.out; omega)
   obtain ⟨b2, o2, y, rfl, hb2, hyk, h3, h4⟩ := Rd.own (((H2.out.alloc _).alloc _).ex HBEL.out) (k := k) (by have := HY.out; omega)
   have HXK := zq hxk
   have HYK := zq hyk
   clear hxk hyk
   have hneq := neq_own x y
   have hgd := guardOwn
   cases hxy : eqB x y
   ·have hne : x ≠ y := eqB_false.1 hxy
    go_wp2_with fail
    go_quiet (fail)
    clear hneq hgd
    go_wp2
    go_ret
    exact ⟨ret_bool (by rw [eq_comm, eqB_false]; exact ne_of_elem HXK.out HYK.out hne), ((((Ex.refl _).alloc _).alloc _).trans HBEL.out).drewN _⟩
   ·have HE := zq (eqB_true.1 hxy)
    go_wp2_with fail
    go_quiet (fail)
    clear hneq hgd
    go_wp2
    go_roundw
    case rel => exact ⟨k + 1, by omega, by go_num, HBEL.out.drewN _, (take_eq_step HXK.out HYK.out).2 ⟨HT.out, HE.out⟩⟩
    case measure => simp [intOf]; omega
  ·go_wp2
   go_ret
   exact ⟨ret_bool (by rw [eq_comm, eqB_true]; exact eq_of_take HX.out.symm HY.out.symm (by rw [show n = k from by omega]; exact HT.out)), (((Ex.refl _).alloc _).alloc _).trans HBEL.out⟩

def ownAt (t : TagsD) (i : Nat) : Bool := decide (0 ≤ (t.owns.getD i ⟨0, 0⟩).tag ∧ (t.owns.getD i ⟨0, 0⟩).tag < t.next ∧ 0 ≤ (t.owns.getD i ⟨0, 0⟩).space ∧ (t.owns.getD i ⟨0, 0⟩).space < 16) &&
 (List.range i).all fun j => decide ((t.owns.getD j ⟨0, 0⟩).tag < (t.owns.getD i ⟨0, 0⟩).tag ∧ (t.owns.getD j ⟨0, 0⟩).space ≠ (t.owns.getD i ⟨0, 0⟩).space)
def TagsHead (t : TagsD) : Prop := 1 ≤ t.count ∧ t.count ≤ 8 ∧ 0 ≤ t.next ∧ t.next ≤ t.count ∧ 0 ≤ t.round ∧ t.round ≤ 1000000
def tagsV (t : TagsD) : Bool := decide (1 ≤ t.count ∧ t.count ≤ 8 ∧ 0 ≤ t.next ∧ t.next ≤ t.count ∧ 0 ≤ t.round ∧ t.round ≤ 1000000) && (List.range t.owns.length).all (ownAt t)

def OwnsUp (t : TagsD) (k : Nat) : Prop := ∀ i x, i < k → t.owns[i]? = some x → (0 ≤ x.tag ∧ x.tag < t.next ∧ 0 ≤ x.space ∧ x.space < 16) ∧ ∀ j y, j < i → t.owns[j]? = some y → y.tag < x.tag ∧ y.space ≠ x.space

theorem own_getD {xs : List OwnD} {i : Nat} {x d : OwnD} (h : xs[i]? = some x) : xs.getD i d = x := by
 rw [List.getD_eq_getElem?_getD, h]; rfl

theorem tagsV_iff (t : TagsD) : tagsV t = true ↔ TagsHead t ∧ OwnsUp t t.owns.length := by
 unfold tagsV
 rw [Bool.and_eq_true, decide_eq_true_iff]
 have h1 : ((List.range t.owns.length).all (ownAt t) = true) ↔ OwnsUp t t.owns.length := by
  rw [List.all_eq_true]
  constructor
  ·intro h i x hi hx
   have := h i (List.mem_range.2 hi)
   unfold ownAt at this
   rw [Bool.and_eq_true, List.all_eq_true, own_getD hx] at this
   refine ⟨by simpa using this.1, fun j y hj hy => ?_⟩
   have h2 := this.2 j (List.mem_range.2 hj)
   rw [own_getD hy] at h2
   simpa using h2
  ·intro h i hi
   have hi' := List.mem_range.1 hi
   obtain ⟨x, hx⟩ : ∃ x, t.owns[i]? = some x := ⟨_, List.getElem?_eq_getElem hi'⟩
   have h2 := h i x hi' hx
   unfold ownAt
   rw [Bool.and_eq_true, List.all_eq_true, own_getD hx]
   refine ⟨by simpa using h2.1, fun j hj => ?_⟩
   have hj' := List.mem_range.1 hj
   obtain ⟨y, hy⟩ : ∃ y, t.owns[j]? = some y := ⟨_, List.getElem?_eq_getElem (by omega)⟩
   rw [own_getD hy]
   simpa using h2.2 j y hj' hy
 rw [h1]
 rfl

theorem ownsUp_zero (t : TagsD) : OwnsUp t 0 := fun i x h => by omega
theorem ownsUp_succ {t : TagsD} {k : Nat} {x : OwnD} (h : OwnsUp t k) (hx : t.owns[k]? = some x) (hv : 0 ≤ x.tag ∧ x.tag < t.next ∧ 0 ≤ x.space ∧ x.space < 16) (hc : ∀ j y, j < k → t.owns[j]? = some y → y.tag < x.tag ∧ y.space ≠ x.space) : OwnsUp t (k + 1) := by
 intro i z hi hz
 by_cases e : i = k
 ·subst e
  rw [hx] at hz
  injection hz with hz
  subst hz
  exact ⟨hv, hc⟩
 ·exact h i z (by omega) hz
theorem tagsV_bad {t : TagsD} {k : Nat} {x : OwnD} (hx : t.owns[k]? = some x) (hv : ¬ ((0 ≤ x.tag ∧ x.tag < t.next ∧ 0 ≤ x.space ∧ x.space < 16) ∧ ∀ j y, j < k → t.owns[j]? = some y → y.tag < x.tag ∧ y.space ≠ x.space)) : tagsV t = false := by
 cases h : tagsV t
 ·rfl
 ·exact absurd (((tagsV_iff t).1 h).2 k x (getElem?_lt hx) hx) hv
theorem tagsV_bad_head {t : TagsD} (h : ¬ TagsHead t) : tagsV t = false := by
 cases h2 : tagsV t
 ·rfl
 ·exact absurd ((tagsV_iff t).1 h2).1 h
theorem tagsV_end {t : TagsD} (h1 : TagsHead t) (h2 : OwnsUp t t.owns.length) : tagsV t = true := (tagsV_iff t).2 ⟨h1, h2⟩

/-- Tags that ascend from 0 on are no more than the next one. -/
theorem ownsUp_few {t : TagsD} {k : Nat} (h : OwnsUp t k) (hk : k ≤ t.owns.length) : ∀ i x, i < k → t.owns[i]? = some x → (i : Int) ≤ x.tag := by
 intro i
 induction i with
 | zero => intro x hi hx; exact (h 0 x hi hx).1.1
 | succ i ih =>
  intro x hi hx
  obtain ⟨y, hy⟩ : ∃ y, t.owns[i]? = some y := ⟨_, List.getElem?_eq_getElem (by omega)⟩
  have h1 := ih y (by omega) hy
  have h2 := ((h (i + 1) x hi hx).2 i y (by omega) hy).1
  omega
theorem ownsUp_len {t : TagsD} (h : OwnsUp t t.owns.length) (hn : 0 ≤ t.next) : (t.owns.length : Int) ≤ t.next := by
 by_cases h0 : t.owns.length = 0
 ·rw [h0]; exact hn
 ·obtain ⟨x, hx⟩ : ∃ x, t.owns[t.owns.length - 1]? = some x := ⟨_, List.getElem?_eq_getElem (by omega)⟩
  have h1 := ownsUp_few h (Nat.le_refl _) _ x (by omega) hx
  have h2 := (h _ x (by omega) hx).1.2.1
  omega

/-! ### A map of the call's own that holds true at some numbers -/
open Go.Maps (Keyed)
theorem kInt : Keyed Tryz.prog 3 := Maps.int_keyed Tryz.underlying3

def HasInts (w : World) (b n : Nat) (S : List Int) : Prop := ∃ D : DataW Unit, w.ownsMap Tryz.prog 3 (plainElem Tryz.prog 4) b n D ∧ Maps.IsMap D ∧ ∀ x : Int, D.atKey (.int .i64 x) (.lit (.bool false)) = .lit (.bool (decide (x ∈ S)))

theorem HasInts.made (w : World) : HasInts (w.alloc (.map #[] 0)) w.heap.size 0 [] :=
 ⟨_, World.ownsMap_made w _ _ _, Maps.isMap_empty, fun x => by simp [DataW.atKey]⟩
theorem HasInts.kept {w w' : World} {b n : Nat} {S : List Int} {row : Option Nat} (h : HasInts w b n S) (hg : w.grownBy w' row) (hne : some b ≠ row) : HasInts w' b n S := by
 obtain ⟨D, h1, h2⟩ := h
 exact ⟨D, h1.kept hg hne, h2⟩
theorem HasInts.ex {w w' : World} {b n : Nat} {S : List Int} (h : HasInts w b n S) (k : Ex w w') : HasInts w' b n S :=
 h.kept (grown_ex (grown_refl w none) k) (by simp)
theorem HasInts.lt {w : World} {b n : Nat} {S : List Int} (h : HasInts w b n S) : b < w.heap.size := by
 obtain ⟨D, h1, _⟩ := h
 exact h1.lt
theorem HasInts.look {w : World} {b n : Nat} {S : List Int} (h : HasInts w b n S) (x : Int) (hx : (Lit.int .i64 x).wf = true) :
  (Instr.lookup 88 (.map (some b)) (.int .i64 x) false).run Tryz.prog w = .ok (.bool (decide (x ∈ S))) w := by
 obtain ⟨D, h1, _, h2⟩ := h
 obtain ⟨v, ps, hrun, hv⟩ := h1.lookup kInt Tryz.underlying88 (z := .bool false) (by kernel_rfl) (plainElem_bool Tryz.underlying4 false) (Maps.keyOf_int_mk Tryz.underlying3 hx)
 rw [h2] at hv
 rw [hrun]
 unfold plainElem at hv
 rw [Tryz.underlying4] at hv
 cases v <;> simp at hv
 rw [hv.1]
theorem HasInts.put {w : World} {b n : Nat} {S : List Int} (h : HasInts w b n S) (hn : n < maxLen) (x : Int) (hx : (Lit.int .i64 x).wf = true) :
  ∃ w', (Instr.mapUpdate 88 (.map (some b)) (.int .i64 x) (.bool true)).run Tryz.prog w = .ok () w' ∧ HasInts w' b (n + 1) (x :: S) ∧ w.grownBy w' (some b) := by
 obtain ⟨D, h1, hm, h2⟩ := h
 obtain ⟨w', hrun, h3, h4⟩ := h1.update kInt Tryz.underlying88 hn (Maps.keyOf_int_mk Tryz.underlying3 hx) (plainElem_bool Tryz.underlying4 true)
 refine ⟨w', hrun, ⟨_, h3, hm.put _ _, fun y => ?_⟩, h4⟩
 by_cases e : y = x
 ·subst e
  rw [Maps.atKey_put_same hm (by first | trivial | (simp [WideAt.IsKeyLit]) | exact True.intro)]
  simp
 ·rw [Maps.atKey_put_other]
  ·rw [h2]
   simp [e]
  ·intro h; injection h with _ h; exact e h
open Go.Maps (Keyed)

theorem rowKey : (43 : TypeId) < Tryz.prog.types.size := of_decide_eq_true (by kernel_rfl)
theorem wideKey : (match Tryz.prog.underlying 43 with | some (.array _ _) | some (.struct _) => true | _ => false) = true := by rw [Tryz.underlying43]
theorem kKey : Keyed Tryz.prog 43 := Keyed.of_law (deep_law_laid laidOutRow (m := 2) (by omega) rowKey (by kernel_rfl) wideKey)
theorem cellsKey : Tryz.prog.cellsOf 43 = 2 := by kernel_rfl
theorem cellsInt : Tryz.prog.cellsOf 3 = 1 := by kernel_rfl
theorem typesKey : Tryz.prog.types.size + 1 = (Tryz.prog.types.size - 1) + 1 + 1 := by kernel_rfl
theorem keyTypeKey : Tryz.prog.keyType 43 = true := by kernel_rfl
theorem litsInt (d : Nat) (a : Int) (h : (Lit.int .i64 a).wf = true) : Tryz.prog.keyLits (d + 1) 3 [.int .i64 a] = some [.int .i64 a] := by
 unfold Program.keyLits
 rw [Tryz.underlying3]
 simp [h]
theorem litsKey (d : Nat) (a b : Int) (h1 : (Lit.int .i64 a).wf = true) (h2 : (Lit.int .i64 b).wf = true) : Tryz.prog.keyLits (d + 1 + 1) 43 [.int .i64 a, .int .i64 b] = some [.int .i64 a, .int .i64 b] := by
 unfold Program.keyLits
 rw [Tryz.underlying43]
 simp [cellsKey, cellsInt, litsInt d a h1, litsInt d b h2]
theorem keyOf_key (x : KeyD) (h1 : (Lit.int .i64 x.space).wf = true) (h2 : (Lit.int .i64 x.page).wf = true) : ∃ l, keyOf Tryz.prog 43 (.agg #[.int .i64 x.space, .int .i64 x.page]) = some l := by
 unfold keyOf
 rw [Tryz.underlying43]
 have hl := litsKey (Tryz.prog.types.size - 1) x.space x.page h1 h2
 rw [← typesKey] at hl
 have hf : (Value.agg #[.int .i64 x.space, .int .i64 x.page]).formed Tryz.prog 43 = true := by simp [Value.formed, Tryz.underlying43, cellsKey]
 refine ⟨.string (keyBytes [.int .i64 x.space, .int .i64 x.page]), ?_⟩
 show (if (Tryz.prog.keyType 43 && (Value.agg #[.int .i64 x.space, .int .i64 x.page]).formed Tryz.prog 43) = true then (Tryz.prog.keyLits (Tryz.prog.types.size + 1) 43 [.int .i64 x.space, .int .i64 x.page]).map (fun ls => Lit.string (keyBytes ls)) else none) = _
 rw [hl, hf, keyTypeKey]
 rfl

/-- A map of the call's own that holds true just at the keys of S (no key twice in S). -/
def HasKeys (w : World) (b n : Nat) (S : List KeyD) : Prop := ∃ D : DataW Unit, w.ownsMap Tryz.prog 43 (plainElem Tryz.prog 4) b n D ∧ Maps.IsMap D ∧ Maps.size D = S.length ∧ ∀ (x : KeyD) (l : Lit), keyOf Tryz.prog 43 (.agg #[.int .i64 x.space, .int .i64 x.page]) = some l → D.atKey l (.lit (.bool false)) = .lit (.bool (decide (x ∈ S))) ∧ Maps.has D l = decide (x ∈ S)
theorem HasKeys.made (w : World) : HasKeys (w.alloc (.map #[] 0)) w.heap.size 0 [] :=
 ⟨_, World.ownsMap_made w _ _ _, Maps.isMap_empty, rfl, fun x l h => by simp [DataW.atKey, Maps.has]⟩
theorem HasKeys.kept {w w' : World} {b n : Nat} {S : List KeyD} {row : Option Nat} (h : HasKeys w b n S) (hg : w.grownBy w' row) (hne : some b ≠ row) : HasKeys w' b n S := by
 obtain ⟨D, h1, h2⟩ := h
 exact ⟨D, h1.kept hg hne, h2⟩
theorem HasKeys.ex {w w' : World} {b n : Nat} {S : List KeyD} (h : HasKeys w b n S) (k : Ex w w') : HasKeys w' b n S :=
 h.kept (grown_ex (grown_refl w none) k) (by simp)
theorem HasKeys.lt {w : World} {b n : Nat} {S : List KeyD} (h : HasKeys w b n S) : b < w.heap.size := by
 obtain ⟨D, h1, _⟩ := h
 exact h1.lt
theorem HasKeys.look {w : World} {b n : Nat} {S : List KeyD} (h : HasKeys w b n S) (x : KeyD) {l : Lit} (hx : keyOf Tryz.prog 43 (.agg #[.int .i64 x.space, .int .i64 x.page]) = some l) :
  (Instr.lookup 86 (.map (some b)) (.agg #[.int .i64 x.space, .int .i64 x.page]) false).run Tryz.prog w = .ok (.bool (decide (x ∈ S))) w := by
 obtain ⟨D, h1, _, _, h2⟩ := h
 obtain ⟨v, ps, hrun, hv⟩ := h1.lookup kKey Tryz.underlying86 (z := .bool false) (by kernel_rfl) (plainElem_bool Tryz.underlying4 false) hx
 rw [(h2 x l hx).1] at hv
 rw [hrun]
 unfold plainElem at hv
 rw [Tryz.underlying4] at hv
 cases v <;> simp at hv
 rw [hv.1]
theorem HasKeys.put {w : World} {b n : Nat} {S : List KeyD} (h : HasKeys w b n S) (hn : n < maxLen) (x : KeyD) (hns : ¬ x ∈ S) {l : Lit} (hx : keyOf Tryz.prog 43 (.agg #[.int .i64 x.space, .int .i64 x.page]) = some l) :
  ∃ w', (Instr.mapUpdate 86 (.map (some b)) (.agg #[.int .i64 x.space, .int .i64 x.page]) (.bool true)).run Tryz.prog w = .ok () w' ∧ HasKeys w' b (n + 1) (x :: S) ∧ w.grownBy w' (some b) := by
 obtain ⟨D, h1, hm, hz, h2⟩ := h
 obtain ⟨w', hrun, h3, h4⟩ := h1.update kKey Tryz.underlying86 hn hx (plainElem_bool Tryz.underlying4 true)
 refine ⟨w', hrun, ⟨_, h3, hm.put _ _, ?_, fun y l' hy => ?_⟩, h4⟩
 ·rw [Maps.size_put (h1.tidy kKey), (h2 x l hx).2, hz]
  simp [hns]
 ·by_cases e : y = x
  ·subst e
   have e2 : l' = l := by rw [hx] at hy; injection hy with hy; exact hy.symm
   subst e2
   rw [Maps.atKey_put_same hm (kKey.key hx), Maps.has_put_same hm (kKey.key hx)]
   simp
  ·have hl : l' ≠ l := by
    intro hl
    subst hl
    have := kKey.inj hx hy
    apply e
    obtain ⟨a1, a2⟩ := x
    obtain ⟨b1, b2⟩ := y
    simp at this
    rw [this.1, this.2]
   rw [Maps.atKey_put_other hl, Maps.has_put_other hl, (h2 y l' hy).1, (h2 y l' hy).2]
   simp [e]
end Go.Proofs.YtbdlpbladpppjaaGreatDoor
namespace Go.Proofs.YtbdlpbladpppjaaGreatDoor
open Go.ChangeShapes Go.WideShapes Go.ChangeAt Go.RowKit

/-- The place of the first element of which p holds, or -1. -/
def firstOf {α : Type} (p : α → Bool) (xs : List α) : Int := match xs.findIdx? p with | some i => (i : Int) | none => -1
theorem firstOf_at {α : Type} {p : α → Bool} {xs : List α} {k : Nat} {x : α} (hx : xs[k]? = some x) (hp : p x = true) (h : ∀ j y, j < k → xs[j]? = some y → p y = false) : firstOf p xs = k := by
 have hk := getElem?_lt hx
 have : xs.findIdx? p = some k := by
  rw [List.findIdx?_eq_some_iff_getElem]
  refine ⟨hk, ?_, fun j hj => ?_⟩
  ·rw [List.getElem?_eq_getElem hk] at hx
   injection hx with hx
   rw [hx]; exact hp
  ·have := h j _ hj (List.getElem?_eq_getElem (by omega))
   simp [this]
 unfold firstOf; rw [this]
theorem firstOf_none {α : Type} {p : α → Bool} {xs : List α} (h : ∀ j y, j < xs.length → xs[j]? = some y → p y = false) : firstOf p xs = -1 := by
 have : xs.findIdx? p = none := by
  rw [List.findIdx?_eq_none_iff]
  intro x hx
  obtain ⟨j, hj, rfl⟩ := List.getElem_of_mem hx
  exact h j _ hj (List.getElem?_eq_getElem hj)
 unfold firstOf; rw [this]
theorem firstOf_cases {α : Type} (p : α → Bool) (xs : List α) : (firstOf p xs = -1 ∧ ∀ (j : Nat) (y : α), xs[j]? = some y → p y = false) ∨ ∃ (k : Nat) (x : α), firstOf p xs = (k : Int) ∧ xs[k]? = some x ∧ p x = true ∧ ∀ (j : Nat) (y : α), j < k → xs[j]? = some y → p y = false := by
 unfold firstOf
 cases h : xs.findIdx? p with
 | none =>
  rw [List.findIdx?_eq_none_iff] at h
  exact .inl ⟨rfl, fun j y hy => h y (List.mem_of_getElem? hy)⟩
 | some k =>
  rw [List.findIdx?_eq_some_iff_getElem] at h
  obtain ⟨hk, hp, hj⟩ := h
  refine .inr ⟨k, xs[k], rfl, List.getElem?_eq_getElem hk, hp, fun j y hjk hy => ?_⟩
  have := hj j hjk
  have e := List.getElem?_eq_getElem (l := xs) (i := j) (by omega)
  rw [hy] at e
  injection e with e
  rw [e]; simpa using this

end Go.Proofs.YtbdlpbladpppjaaGreatDoor
namespace Go.Proofs.YtbdlpbladpppjaaGreatDoor
open Go.ChangeShapes Go.WideShapes Go.ChangeAt Go.RowKit
open Rec (sz cs)
set_option linter.unusedVariables false
set_option maxRecDepth 100000

def noTags : TagsD := ⟨0, 0, 0, []⟩
def newTags (n : Int) : TagsD × Bool := if 1 ≤ n ∧ n ≤ 8 then (⟨n, 0, 0, []⟩, true) else (noTags, false)

set_option maxHeartbeats 400000 in
theorem newTagsS_c (n : Int) (w : World) : Calls Tryz.prog 87 #[.int .i64 n] w
  fun r w' => ∃ A c, r = .returned (.tuple #[.agg #[.int .i64 (newTags n).1.count, .int .i64 (newTags n).1.next, .int .i64 (newTags n).1.round, .slice A (newTags n).1.owns.length c], .bool (newTags n).2]) ∧ Fr 93 w' w.heap.size A c (newTags n).1.owns ∧ Ex w w' := by
 by_cases h1 : 1 ≤ n
 ·by_cases h2 : n ≤ 8
  ·have e : newTags n = (⟨n, 0, 0, []⟩, true) := if_pos ⟨h1, h2⟩
   rw [e]
   clear e
   go_enter Tryz.func87, Tryz.ntmps87
   go_wp2
   exact bodyPost_ret (v := .tuple #[.agg #[.int .i64 n, .int .i64 0, .int .i64 0, .slice (some ⟨w.heap.size + 1, 0, none⟩) 0 0], .bool true]) (by simp [results, Tryz.results87, go_sem]) rfl
    ⟨_, 0, rfl, Fr.none_ _ _ _ _, ((Ex.refl _).alloc _).alloc _⟩
  ·have e : newTags n = (noTags, false) := if_neg (fun h => h2 h.2)
   rw [e]
   clear e
   have h3 : 8 < n := by omega
   go_enter Tryz.func87, Tryz.ntmps87
   go_wp2
   exact bodyPost_ret (v := .tuple #[.agg #[.int .i64 0, .int .i64 0, .int .i64 0, .slice none 0 0], .bool false]) (by simp [results, Tryz.results87, go_sem]) rfl
    ⟨none, 0, rfl, Fr.none_ _ _ _ _, (Ex.refl _).alloc _⟩
 ·have e : newTags n = (noTags, false) := if_neg (fun h => h1 h.1)
  rw [e]
  clear e
  have h3 : n < 1 := by omega
  go_enter Tryz.func87, Tryz.ntmps87
  go_wp2
  exact bodyPost_ret (v := .tuple #[.agg #[.int .i64 0, .int .i64 0, .int .i64 0, .slice none 0 0], .bool false]) (by simp [results, Tryz.results87, go_sem]) rfl
   ⟨none, 0, rfl, Fr.none_ _ _ _ _, (Ex.refl _).alloc _⟩
end Go.Proofs.YtbdlpbladpppjaaGreatDoor
namespace Go.Proofs.YtbdlpbladpppjaaGreatDoor
open Go.ChangeShapes Go.WideShapes Go.ChangeAt Go.RowKit
set_option linter.unusedVariables false

def noOwn : OwnD := ⟨0, 0⟩
def ownPlace (xs : List OwnD) (s : Int) : Int := firstOf (fun x => x.space == s) xs
def tagPlace (xs : List OwnD) (g : Int) : Int := firstOf (fun x => x.tag == g) xs
def spaceOf (t : TagsD) (g : Int) : Int × Bool := if tagsV t = true ∧ 0 ≤ tagPlace t.owns g then ((t.owns.getD (tagPlace t.owns g).toNat noOwn).space, true) else (0, false)
def takeTag (t : TagsD) (s : Int) : TagsD × Int × Bool × Bool :=
 if tagsV t = true ∧ inB s 16 = true then
  if 0 ≤ ownPlace t.owns s then (t, (t.owns.getD (ownPlace t.owns s).toNat noOwn).tag, false, true)
  else if t.next = t.count then
   if t.round = 1000000 then (noTags, 0, false, false) else (⟨t.count, 1, t.round + 1, [⟨s, 0⟩]⟩, 0, true, true)
  else (⟨t.count, t.next + 1, t.round, t.owns ++ [⟨s, t.next⟩]⟩, t.next, false, true)
 else (noTags, 0, false, false)
/-! ### Valid tags -/
section
variable {t : TagsD} (hv : tagsV t = true)
include hv
theorem tv_head : TagsHead t := ((tagsV_iff t).1 hv).1
theorem tv_up : OwnsUp t t.owns.length := ((tagsV_iff t).1 hv).2
theorem tv_own {i : Nat} {x : OwnD} (hx : t.owns[i]? = some x) : 0 ≤ x.tag ∧ x.tag < t.next ∧ 0 ≤ x.space ∧ x.space < 16 := (tv_up hv i x (getElem?_lt hx) hx).1
theorem tv_lt {i j : Nat} {x y : OwnD} (hx : t.owns[i]? = some x) (hy : t.owns[j]? = some y) (h : j < i) : y.tag < x.tag ∧ y.space ≠ x.space := (tv_up hv i x (getElem?_lt hx) hx).2 j y h hy
theorem tv_few : (t.owns.length : Int) ≤ t.next ∧ t.owns.length ≤ 8 := by
 have h := tv_head hv
 have h1 := ownsUp_len (tv_up hv) h.2.2.1
 have h2 := h.2.1
 have h3 := h.2.2.2.1
 omega
theorem ownPlace_of {i : Nat} {x : OwnD} (hx : t.owns[i]? = some x) : ownPlace t.owns x.space = i :=
 firstOf_at hx (by simp) fun j y hj hy => by have := (tv_lt hv hx hy hj).2; simpa using this
theorem tagPlace_of {i : Nat} {x : OwnD} (hx : t.owns[i]? = some x) : tagPlace t.owns x.tag = i :=
 firstOf_at hx (by simp) fun j y hj hy => by have := (tv_lt hv hx hy hj).1; simp; omega
theorem spaceOf_of {i : Nat} {x : OwnD} (hx : t.owns[i]? = some x) : spaceOf t x.tag = (x.space, true) := by
 unfold spaceOf
 rw [tagPlace_of hv hx, if_pos ⟨hv, by omega⟩, Int.toNat_natCast, own_getD hx]
end

theorem place_or (xs : List OwnD) (s : Int) : (ownPlace xs s = -1 ∧ ∀ (j : Nat) (y : OwnD), xs[j]? = some y → y.space ≠ s) ∨ ∃ (k : Nat) (x : OwnD), ownPlace xs s = k ∧ xs[k]? = some x ∧ x.space = s := by
 rcases firstOf_cases (fun x : OwnD => x.space == s) xs with ⟨h1, h2⟩ | ⟨k, x, h1, h2, h3, h4⟩
 ·exact .inl ⟨h1, fun j y hy => by have := h2 j y hy; simpa using this⟩
 ·exact .inr ⟨k, x, h1, h2, by simpa using h3⟩
theorem tplace_or (xs : List OwnD) (g : Int) : (tagPlace xs g = -1 ∧ ∀ (j : Nat) (y : OwnD), xs[j]? = some y → y.tag ≠ g) ∨ ∃ (k : Nat) (x : OwnD), tagPlace xs g = k ∧ xs[k]? = some x ∧ x.tag = g := by
 rcases firstOf_cases (fun x : OwnD => x.tag == g) xs with ⟨h1, h2⟩ | ⟨k, x, h1, h2, h3, h4⟩
 ·exact .inl ⟨h1, fun j y hy => by have := h2 j y hy; simpa using this⟩
 ·exact .inr ⟨k, x, h1, h2, by simpa using h3⟩
theorem spaceOf_none {t : TagsD} {g : Int} (h : ∀ (j : Nat) (y : OwnD), t.owns[j]? = some y → y.tag ≠ g) : spaceOf t g = (0, false) := by
 unfold spaceOf
 rcases tplace_or t.owns g with ⟨h1, _⟩ | ⟨k, x, _, h2, h3⟩
 ·rw [if_neg (by rw [h1]; omega)]
 ·exact absurd h3 (h k x h2)
theorem spaceOf_or (t : TagsD) (g : Int) : (spaceOf t g = (0, false) ∧ (tagsV t = true → ∀ (j : Nat) (y : OwnD), t.owns[j]? = some y → y.tag ≠ g)) ∨ ∃ (k : Nat) (x : OwnD), tagsV t = true ∧ t.owns[k]? = some x ∧ x.tag = g ∧ spaceOf t g = (x.space, true) := by
 by_cases hv : tagsV t = true
 ·rcases tplace_or t.owns g with ⟨_, h2⟩ | ⟨k, x, _, h2, h3⟩
  ·exact .inl ⟨spaceOf_none h2, fun _ => h2⟩
  ·exact .inr ⟨k, x, hv, h2, h3, by rw [← h3]; exact spaceOf_of hv h2⟩
 ·exact .inl ⟨if_neg (fun h => hv h.1), fun h => absurd h hv⟩

/-! ### Taking one tag -/
theorem takeTag_or (t : TagsD) (s : Int) :
  takeTag t s = (noTags, 0, false, false) ∨
  (∃ (k : Nat) (x : OwnD), tagsV t = true ∧ inB s 16 = true ∧ t.owns[k]? = some x ∧ x.space = s ∧ takeTag t s = (t, x.tag, false, true)) ∨
  (tagsV t = true ∧ inB s 16 = true ∧ (∀ (j : Nat) (y : OwnD), t.owns[j]? = some y → y.space ≠ s) ∧ t.next ≠ t.count ∧ takeTag t s = (⟨t.count, t.next + 1, t.round, t.owns ++ [⟨s, t.next⟩]⟩, t.next, false, true)) ∨
  (tagsV t = true ∧ inB s 16 = true ∧ (∀ (j : Nat) (y : OwnD), t.owns[j]? = some y → y.space ≠ s) ∧ t.next = t.count ∧ t.round ≠ 1000000 ∧ takeTag t s = (⟨t.count, 1, t.round + 1, [⟨s, 0⟩]⟩, 0, true, true)) := by
 unfold takeTag
 by_cases h : tagsV t = true ∧ inB s 16 = true
 ·rw [if_pos h]
  rcases place_or t.owns s with ⟨h1, h2⟩ | ⟨k, x, h1, h2, h3⟩
  ·rw [if_neg (by omega)]
   by_cases h4 : t.next = t.count
   ·rw [if_pos h4]
    by_cases h5 : t.round = 1000000
    ·rw [if_pos h5]; exact .inl rfl
    ·rw [if_neg h5]; exact .inr (.inr (.inr ⟨h.1, h.2, h2, h4, h5, rfl⟩))
   ·rw [if_neg h4]; exact .inr (.inr (.inl ⟨h.1, h.2, h2, h4, rfl⟩))
  ·rw [if_pos (by omega)]
   exact .inr (.inl ⟨k, x, h.1, h.2, h2, h3, by rw [h1, Int.toNat_natCast, own_getD h2]⟩)
 ·rw [if_neg h]; exact .inl rfl

theorem get_append_cases {α : Type} {xs : List α} {z x : α} {i : Nat} (h : (xs ++ [z])[i]? = some x) : xs[i]? = some x ∨ (i = xs.length ∧ x = z) := by
 by_cases hi : i < xs.length
 ·rw [List.getElem?_append_left hi] at h; exact .inl h
 ·rw [List.getElem?_append_right (by omega)] at h
  have h2 := getElem?_lt h
  simp at h2
  have e : i = xs.length := by omega
  subst e
  simp at h
  exact .inr ⟨rfl, h.symm⟩

theorem up_push {c n r s : Int} {xs : List OwnD} (h : OwnsUp ⟨c, n, r, xs⟩ xs.length) (hn : 0 ≤ n) (hs : inB s 16 = true) (hf : ∀ (j : Nat) (y : OwnD), xs[j]? = some y → y.space ≠ s) :
  OwnsUp ⟨c, n + 1, r, xs ++ [⟨s, n⟩]⟩ (xs ++ [(⟨s, n⟩ : OwnD)]).length := by
 intro i x hi hx
 simp only at hx
 rcases get_append_cases hx with hx' | ⟨rfl, rfl⟩
 ·have h1 := h i x (getElem?_lt hx') hx'
  refine ⟨⟨h1.1.1, by have := h1.1.2.1; simp only at this ⊢; omega, h1.1.2.2⟩, fun j y hj hy => h1.2 j y hj ?_⟩
  simp only at hy
  rwa [List.getElem?_append_left (by have := getElem?_lt hx'; omega)] at hy
 ·have hb := inB_true.1 hs
  refine ⟨⟨hn, by simp only; omega, hb.1, hb.2⟩, fun j y hj hy => ?_⟩
  simp only at hy
  rw [List.getElem?_append_left hj] at hy
  have := (h j y hj hy).1.2.1
  exact ⟨this, hf j y hy⟩

theorem take_valid {t : TagsD} {s : Int} (h : (takeTag t s).2.2.2 = true) : tagsV (takeTag t s).1 = true := by
 rcases takeTag_or t s with e | ⟨k, x, hv, hb, hx, hs, e⟩ | ⟨hv, hb, hf, hn, e⟩ | ⟨hv, hb, hf, hn, hr, e⟩
 ·rw [e] at h; cases h
 ·rw [e]; exact hv
 ·rw [e]
  have hh := tv_head hv
  refine tagsV_end ⟨hh.1, hh.2.1, ?_, ?_, hh.2.2.2.2⟩ ?_
  ·have := hh.2.2.1; simp only; omega
  ·have := hh.2.2.2.1; simp only; omega
  ·exact up_push (tv_up hv) hh.2.2.1 hb hf
 ·rw [e]
  have hh := tv_head hv
  unfold TagsHead at hh
  refine tagsV_end ⟨hh.1, hh.2.1, by simp only; omega, by simp only; omega, by simp only; omega, by simp only; omega⟩ ?_
  have := up_push (c := t.count) (n := 0) (r := t.round + 1) (s := s) (xs := []) (ownsUp_zero _) (Int.le_refl _) hb (fun j y hy => by simp at hy)
  simpa using this
/-- Who has a tag takes it again. -/
theorem take_again {t : TagsD} (hv : tagsV t = true) {k : Nat} {x : OwnD} (hx : t.owns[k]? = some x) : takeTag t x.space = (t, x.tag, false, true) := by
 have hb := tv_own hv hx
 unfold takeTag
 rw [if_pos ⟨hv, inB_true.2 hb.2.2⟩, ownPlace_of hv hx, if_pos (by omega), Int.toNat_natCast, own_getD hx]

/-! ### Leaving -/
/-! ### Taking one after the other -/
end Go.Proofs.YtbdlpbladpppjaaGreatDoor
