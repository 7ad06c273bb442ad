/- Drawn caches: l4At, a cache with a tag and a page. -/
import Derived.Test.YtidnefcnojedoaaDd
import Derived.Test.YtidnefcnojedoaaRf
import Derived.Test.YtidnefcnojedoaaFar
import Derived.Deep.DeepCutAuto
import Derived.Deep.RegionHeld3
namespace Go.Proofs.Ytidnefcnojedoaa
open Go.ChangeShapes Go.WideShapes Go.ChangeAt Go.RowKit
open Rec (sz cs)
set_option linter.unusedVariables false
set_option maxRecDepth 100000

def SomeAt (w : World) (e : Ending) (w' : World) : Prop := ∃ (t : CacheD) (tag page : Int) (A : Option Addr) (c : Nat), e = .returned (.tuple #[.agg #[.slice A t.lines.length c, .int .i64 t.hand], .int .i64 tag, .int .i64 page]) ∧ Few t ∧ Fr 43 w' w.heap.size A c t.lines ∧ Ex w w'

/-- How things stand within l4At. -/
structure AtS (w : World) (g gc gx B : Nat) (t : CacheD) (A : Option Addr) (c : Nat) (x : LineD) (p : Nat) (wx : World) : Prop where
  kx : Blk wx gx 43 [.bool x.valid, .int .i64 x.tag, .int .i64 x.page, .int .i64 x.frame, .int .i64 x.rights, .bool x.wired]
  kc : Blk wx gc 33 [.slice A t.lines.length c, .int .i64 t.hand]
  kr : Blk wx w.heap.size 33 [.slice none 0 0, .int .i64 0]
  hf : Fr 43 wx B A c t.lines
  rd : Rdr wx g p
  ew : Ex w wx
  n1 : g < gx
  n2 : g < gc
  n3 : w.heap.size < g
  n4 : g < B
  n5 : gc ≠ gx
  n6 : ∀ b, rowOf A c = some b → b < gx
theorem AtS.go {w wx w' : World} {g gc gx B : Nat} {t : CacheD} {A : Option Addr} {c : Nat} {x : LineD} {p p' : Nat} (h : AtS w g gc gx B t A c x p wx) (k : Chg g (g + 1) wx w') (r : Rdr w' g p') : AtS w g gc gx B t A c x p' w' := by
  have a1 := h.n1; have a2 := h.n2; have a3 := h.n3; have a4 := h.n4
  exact ⟨h.kx.chg k (by omega), h.kc.chg k (by omega), h.kr.chg k (by omega), h.hf.chg k (l := B) (u := wx.heap.size) h.hf.row (by omega), r, h.ew.chg k (by omega), a1, a2, a3, a4, h.n5, h.n6⟩
theorem AtS.put {w wx : World} {g gc gx B : Nat} {t : CacheD} {A : Option Addr} {c : Nat} {x y : LineD} {p : Nat} (h : AtS w g gc gx B t A c x p wx) :
    AtS w g gc gx B t A c y p ((((((wx.setCell ⟨gx, 0, none⟩ (.bool y.valid)).setCell ⟨gx, 1, none⟩ (.int .i64 y.tag)).setCell ⟨gx, 2, none⟩ (.int .i64 y.page)).setCell ⟨gx, 3, none⟩ (.int .i64 y.frame)).setCell ⟨gx, 4, none⟩ (.int .i64 y.rights)).setCell ⟨gx, 5, none⟩ (.bool y.wired)) := by
  have a1 := h.n1; have a2 := h.n2; have a3 := h.n3; have a4 := h.n4; have a5 := h.n5
  have hk : Chg gx (gx + 1) wx ((((((wx.setCell ⟨gx, 0, none⟩ (.bool y.valid)).setCell ⟨gx, 1, none⟩ (.int .i64 y.tag)).setCell ⟨gx, 2, none⟩ (.int .i64 y.page)).setCell ⟨gx, 3, none⟩ (.int .i64 y.frame)).setCell ⟨gx, 4, none⟩ (.int .i64 y.rights)).setCell ⟨gx, 5, none⟩ (.bool y.wired)) := Chg.set6 (Chg.refl _ _ wx) (.inl ⟨Nat.le_refl _, Nat.lt_succ_self _⟩)
  exact ⟨Blk.put6 h.kx, h.kc.chg hk (by omega), h.kr.chg hk (by omega), h.hf.chg hk (l := 0) (u := gx) (fun b hb => ⟨Nat.zero_le _, h.n6 b hb⟩) (by omega), h.rd.chg hk (by omega), h.ew.chg hk (by omega), a1, a2, a3, a4, a5, h.n6⟩
def AtSt (w : World) (g gc gx B P : Nat) (t : CacheD) (A : Option Addr) (c : Nat) (wx : World) : Prop := ∃ (x : LineD) (p' : Nat), p' ≤ P ∧ AtS w g gc gx B t A c x p' wx
def AtCut (w : World) (g gc B P : Nat) (t : CacheD) (A : Option Addr) (c : Nat) (s7 : Value) (wx : World) : Prop := ∃ gx : Nat, s7 = .pointer (some ⟨gx, 0, none⟩) ∧ AtSt w g gc gx B P t A c wx
def AtBool (w : World) (g gc gx B P : Nat) (t : CacheD) (A : Option Addr) (c : Nat) (s : Value) (wx : World) : Prop := ∃ b : Bool, s = .bool b ∧ AtSt w g gc gx B P t A c wx
def AtInt (w : World) (g gc gx B P : Nat) (t : CacheD) (A : Option Addr) (c : Nat) (s : Value) (wx : World) : Prop := ∃ b : Int, s = .int .i64 b ∧ AtSt w g gc gx B P t A c wx

set_option maxHeartbeats 16000000 in
theorem l4At_c (A : Option Addr) (c : Nat) (bs : List ByteD) (w : World) (hx : Rd w A bs) (hb : Bytes bs) (hn : bs.length ≤ 1048576) (hc : bs.length ≤ c) (hcm : c ≤ maxLen) :
    Calls Try.prog 29 #[.slice A bs.length c] w (SomeAt w) := by
  have C0 := Lib.hid (fun w' (h : Ex w w') => l12Open_c A c bs w' (hx.ex h) hb hn hc hcm)
  generalize bs.length = n at C0 hn hc
  clear hx hb hn hc hcm
  go_enter Try.func29, Try.ntmps29
  go_wp2_with fail
  refine name_calls ?_; intro v1 hv1
  have X1 : Hid (Chg (0) (0) w v1) := Lib.hid (by rw [hv1]; repeat' (first | with_reducible exact Chg.refl _ _ _ | with_reducible refine Chg.alloc ?_ _ | with_reducible refine Chg.drew ?_ | with_reducible refine Chg.set ?_ (by omega) _))
  have t1 : w.heap.size ≤ v1.heap.size := X1.out.size
  have Ev1 : Hid (Ex w v1) := Lib.hid ((Ex.refl w).chg X1.out (by omega))
  have KR : Hid (Blk v1 (w.heap.size) 33 [.slice none 0 0, .int .i64 0]) := Lib.hid (by rw [hv1]; repeat' (first | with_reducible exact Blk.new_at _ _ _ (by simp) | with_reducible refine Blk.alloc ?_ _ | with_reducible refine Blk.drew ?_ | with_reducible refine Blk.far ?_ (by simp; omega) _))
  have lR : w.heap.size < v1.heap.size := KR.out.lt
  clear hv1
  refine (C0.out _ Ev1.out).mono ?_; rintro r w1 ⟨g, rfl, hrd1, hg1, hb1⟩
  have Y1 : Hid (Chg 0 0 v1 w1) := Lib.hid (Chg.of_ex hb1)
  have s1 : v1.heap.size ≤ w1.heap.size := Y1.out.size
  have Ew1 : Hid (Ex w w1) := Lib.hid (Ev1.out.chg Y1.out (by omega))
  clear hb1
  replace KR : Hid (Blk w1 (w.heap.size) 33 [.slice none 0 0, .int .i64 0]) := Lib.hid (KR.out.chg Y1.out (by omega))
  have HRD1 := Lib.hid hrd1; clear hrd1
  obtain ⟨qR0, qR1⟩ := KR.out.c2
  have jR := KR.out.lt
  have lg : g < w1.heap.size := HRD1.out.lt
  go_wp2_with fail
  refine name_calls ?_; intro v2 hv2
  have X2 : Hid (Chg (0) (0) w1 v2) := Lib.hid (by rw [hv2]; repeat' (first | with_reducible exact Chg.refl _ _ _ | with_reducible refine Chg.alloc ?_ _ | with_reducible refine Chg.drew ?_ | with_reducible refine Chg.set ?_ (by omega) _))
  have t2 : w1.heap.size ≤ v2.heap.size := X2.out.size
  have Ev2 : Hid (Ex w v2) := Lib.hid (Ew1.out.chg X2.out (by omega))
  clear qR0 qR1 jR
  replace KR : Hid (Blk v2 (w.heap.size) 33 [.slice none 0 0, .int .i64 0]) := Lib.hid (KR.out.chg X2.out (by omega))
  replace HRD1 := Lib.hid (HRD1.out.chg X2.out (by omega))
  clear hv2
  refine (l4Draw_c g 0 _ HRD1.out (by omega)).mono ?_; rintro r w2 ⟨t, A2, c2, p2, rfl, hd, hf2, hrd2, hp2, hb2⟩
  have Y2 : Hid (Chg (g) (g + 1) v2 w2) := Lib.hid (Chg.of_grown hb2 (fun b hb => by injection hb with hb; omega))
  have s2 : v2.heap.size ≤ w2.heap.size := Y2.out.size
  have Ew2 : Hid (Ex w w2) := Lib.hid (Ev2.out.chg Y2.out (by omega))
  clear hb2
  replace KR : Hid (Blk w2 (w.heap.size) 33 [.slice none 0 0, .int .i64 0]) := Lib.hid (KR.out.chg Y2.out (by omega))
  clear HRD1
  have HF2 := Lib.hid hf2; clear hf2
  have WHF2 := Lib.hid HF2.out.row
  have HRD2 := Lib.hid hrd2; clear hrd2
  obtain ⟨qR0, qR1⟩ := KR.out.c2
  have jR := KR.out.lt
  have HD := Lib.hid hd
  have hl1 := hd.1
  have hn : t.lines.length ≤ 1048576 := by have := hd.2.1; omega
  clear hd
  obtain ⟨a1, o1, hA, -, -⟩ := HF2.out.rd (by omega)
  subst hA
  go_wp2_with fail
  obtain ⟨wE, hwE⟩ : ∃ wE : World, wE = w2.alloc (.cells #[.slice (some ⟨a1, o1, none⟩) t.lines.length c2, .int .i64 t.hand] 33) := ⟨_, rfl⟩
  obtain ⟨gc, hgc⟩ : ∃ gc, gc = w2.heap.size := ⟨_, rfl⟩
  have KC : Hid (Blk wE gc 33 [.slice (some ⟨a1, o1, none⟩) t.lines.length c2, .int .i64 t.hand]) := Lib.hid (by rw [hwE, hgc]; exact Blk.new _ _ _)
  have YE : Hid (Chg 0 0 w2 wE) := Lib.hid (by rw [hwE]; exact (Chg.refl _ _ _).alloc _)
  rw [← hwE, ← hgc]
  have hgcw : w2.heap.size ≤ gc := by omega
  have hgcE : gc < wE.heap.size := KC.out.lt
  clear hwE hgc
  have sE : w2.heap.size ≤ wE.heap.size := YE.out.size
  have EwE : Hid (Ex w wE) := Lib.hid (Ew2.out.chg YE.out (by omega))
  clear qR0 qR1 jR
  replace KR : Hid (Blk wE (w.heap.size) 33 [.slice none 0 0, .int .i64 0]) := Lib.hid (KR.out.chg YE.out (by omega))
  replace HF2 := Lib.hid (HF2.out.chg YE.out WHF2.out (by omega))
  replace HRD2 := Lib.hid (HRD2.out.chg YE.out (by omega))
  obtain ⟨qR0, qR1⟩ := KR.out.c2
  have jR := KR.out.lt
  obtain ⟨qC0, qC1⟩ := KC.out.c2
  have jC := KC.out.lt
  obtain ⟨Ar, cr, br, hrv⟩ := HRD2.out.open_
  obtain ⟨v, hv, hpk⟩ := pick_det p2 t.lines.length Ar cr br (by omega) (by have := HD.out.2.1; omega)
  obtain ⟨k, rfl⟩ := Int.eq_ofNat_of_zero_le hv.1
  have hkl : k < t.lines.length := by have := hv.2.1 (by omega); omega
  have CP : Hid (∀ w', Ex wE w' → Calls Try.prog 24 #[.pointer (some ⟨g, 0, none⟩), .int .i64 t.lines.length] w' (PickedV g p2 k w')) := Lib.hid (fun w' h => hpk g w' (hrv.ex h))
  obtain ⟨x, hb1, hxk, h0, h1, h2, h3, h4, h5⟩ := Rd.line_known HF2.out.rd (k := k) hkl
  have ha1g : g + 1 ≤ a1 := by
    obtain ⟨gr, rest, e, hB, -, -⟩ := HF2.out.open_ hkl
    injection e with e; injection e with e1; omega
  have HH0 := Lib.hid h0
  have HH1 := Lib.hid h1
  have HH2 := Lib.hid h2
  have HH3 := Lib.hid h3
  have HH4 := Lib.hid h4
  have HH5 := Lib.hid h5
  have FK : Hid (∀ w', Chg g (g + 1) wE w' → (w'.cell? ⟨gc, 0, none⟩ = some (.slice (some ⟨a1, o1, none⟩) t.lines.length c2) ∧ w'.cell? ⟨gc, 1, none⟩ = some (.int .i64 t.hand) ∧ w'.cell? ⟨a1, o1 + k * 6, none⟩ = some (.bool x.valid) ∧ w'.cell? ⟨a1, o1 + k * 6 + 1, none⟩ = some (.int .i64 x.tag) ∧ w'.cell? ⟨a1, o1 + k * 6 + 2, none⟩ = some (.int .i64 x.page) ∧ w'.cell? ⟨a1, o1 + k * 6 + 3, none⟩ = some (.int .i64 x.frame) ∧ w'.cell? ⟨a1, o1 + k * 6 + 4, none⟩ = some (.int .i64 x.rights) ∧ w'.cell? ⟨a1, o1 + k * 6 + 5, none⟩ = some (.bool x.wired))) := Lib.hid (fun w' h => by
    obtain ⟨q0, q1⟩ := (KC.out.chg h (by omega)).c2
    have hc : ∀ o, w'.cell? ⟨a1, o, none⟩ = wE.cell? ⟨a1, o, none⟩ := fun o => World.cell?_of_block (w := wE) (a := ⟨a1, o, none⟩) (h.block a1 hb1 (by omega))
    exact ⟨q0, q1, (hc _).trans HH0.out, (hc _).trans HH1.out, (hc _).trans HH2.out, (hc _).trans HH3.out, (hc _).trans HH4.out, (hc _).trans HH5.out⟩)
  have hGR : ∀ b, some g = some b → g ≤ b ∧ b < g + 1 := fun b hb => by injection hb with hb; omega
  have hneE : some wE.heap.size ≠ some g := fun e => by injection e with e; omega
  have hk0 : ¬ ((k : Int) < 0) := by omega
  have hk1 : (k : Int) < (t.lines.length : Int) := by omega
  have hwg : w.heap.size < g := by omega
  clear lR qR0 qR1 jR hv hpk hrv hxk h0 h1 h2 h3 h4 h5 qC0 qC1 jC
  go_upto_region 3 with fail
  go_cut [7] (fun s7 wx => AtCut w g gc v2.heap.size (p2 + 1) t (some ⟨a1, o1, none⟩) c2 s7 wx)
  case first =>
    go_region_held3 (fun w' => (w'.cell? ⟨gc, 0, none⟩ = some (.slice (some ⟨a1, o1, none⟩) t.lines.length c2) ∧ w'.cell? ⟨gc, 1, none⟩ = some (.int .i64 t.hand) ∧ w'.cell? ⟨a1, o1 + k * 6, none⟩ = some (.bool x.valid) ∧ w'.cell? ⟨a1, o1 + k * 6 + 1, none⟩ = some (.int .i64 x.tag) ∧ w'.cell? ⟨a1, o1 + k * 6 + 2, none⟩ = some (.int .i64 x.page) ∧ w'.cell? ⟨a1, o1 + k * 6 + 3, none⟩ = some (.int .i64 x.frame) ∧ w'.cell? ⟨a1, o1 + k * 6 + 4, none⟩ = some (.int .i64 x.rights) ∧ w'.cell? ⟨a1, o1 + k * 6 + 5, none⟩ = some (.bool x.wired))) ((refine FK.out _ ?_; with_reducible (first | exact Chg.refl _ _ _ | exact (Chg.refl _ _ _).drew | exact ((Chg.refl _ _ _).alloc _).drew | exact hCa | exact hCa.alloc _ | exact Chg.set6 hCa (.inr (Nat.le_refl _))))) (first | (go_at_call 24; (with_reducible refine (CP.out _ ?_).mono ?_); (first | with_reducible exact (Ex.refl _).drew | with_reducible exact ((Ex.refl _).alloc _).drew); rintro r wa ⟨rfl, hra, hga⟩; (first | (with_reducible (have hCa : Chg g (g + 1) wE wa := (Chg.refl g (g + 1) wE).drew.trans (Chg.of_grown hga hGR))) | (with_reducible (have hCa : Chg g (g + 1) wE wa := ((Chg.refl g (g + 1) wE).alloc _).drew.trans (Chg.of_grown hga hGR)); have hz : Blk wa wE.heap.size 43 [.bool false, .int .i64 0, .int .i64 0, .int .i64 0, .int .i64 0, .bool false] := Blk.grown (Blk.drew (Blk.new wE 43 [.bool false, .int .i64 0, .int .i64 0, .int .i64 0, .int .i64 0, .bool false])) hga hneE; obtain ⟨hz0, hz1, hz2, hz3, hz4, hz5⟩ := hz.c6; have hzf := hz.frozen; have hzl := hz.lt))))
    all_goals (go_wp2_with fail; go_meet)
    all_goals
      have hEa : Ex w wa := EwE.out.chg hCa (by omega)
      have hFa : Fr 43 wa v2.heap.size (some ⟨a1, o1, none⟩) c2 t.lines := HF2.out.chg hCa WHF2.out (by omega)
      have hKa := Blk.chg KR.out hCa (by omega)
      have hka := Blk.chg KC.out hCa (by omega)
      have hsa := hCa.size
      have hra' : Rdr wa g (p2 + 1) := hra
    · exact ⟨wa.heap.size, rfl, x, p2 + 1, Nat.le_refl _, Blk.new _ _ _, hka.alloc _, hKa.alloc _, hFa.alloc _, hra'.alloc _, hEa.alloc _, by omega, by omega, by omega, by omega, by omega, fun b hb => by have := WHF2.out b hb; omega⟩
    · have hk6 : Chg wE.heap.size (wE.heap.size + 1) wa ((((((wa.setCell ⟨wE.heap.size, 0, none⟩ (.bool x.valid)).setCell ⟨wE.heap.size, 1, none⟩ (.int .i64 x.tag)).setCell ⟨wE.heap.size, 2, none⟩ (.int .i64 x.page)).setCell ⟨wE.heap.size, 3, none⟩ (.int .i64 x.frame)).setCell ⟨wE.heap.size, 4, none⟩ (.int .i64 x.rights)).setCell ⟨wE.heap.size, 5, none⟩ (.bool x.wired)) := Chg.set6 (Chg.refl _ _ wa) (.inl ⟨Nat.le_refl _, Nat.lt_succ_self _⟩)
      exact ⟨wE.heap.size, rfl, x, p2 + 1, Nat.le_refl _, Blk.put6 hz, hka.chg hk6 (by omega), hKa.chg hk6 (by omega), hFa.chg hk6 WHF2.out (by omega), hra'.chg hk6 (by omega), hEa.chg hk6 (by omega), by omega, by omega, by omega, by omega, by omega, fun b hb => by have := WHF2.out b hb; omega⟩
  case rest =>
    obtain ⟨gx, rfl, x, p3, hp3, hs⟩ := hcut
    have HS := Lib.hid hs
    have hfl := hs.hf.le
    have hfc := hs.hf.cap
    have HGR : Hid (∀ b, some g = some b → g ≤ b ∧ b < g + 1) := Lib.hid hGR
    clear hs FK CP HH0 HH1 HH2 HH3 HH4 HH5 hk0 hk1 KC KR HF2 WHF2 HRD2 hGR hneE ha1g
    go_upto_region 4 with fail
    go_cut [29] (fun s wx => AtBool w g gc gx v2.heap.size (p2 + 2) t (some ⟨a1, o1, none⟩) c2 s wx)
    case first =>
      obtain ⟨k0, k1, k2, k3, k4, k5⟩ := HS.out.kx.c6
      have kl := HS.out.kx.lt
      cases hxv : x.valid
      · rw [hxv] at k0
        clear hxv
        go_wp2_with fail
        go_meet
        exact ⟨true, rfl, x, p3, by omega, HS.out⟩
      · rw [hxv] at k0
        clear hxv
        go_wp2_with fail
        refine (pick_c g p3 4 _ HS.out.rd (by omega) (by omega)).mono ?_
        rintro r w5 ⟨z, rfl, hz, hr5, hg5⟩
        have HS5 := Lib.hid (HS.out.go (Chg.of_grown hg5 HGR.out) hr5)
        clear hz hr5 hg5 k0 k1 k2 k3 k4 k5 kl
        go_wp2_with fail
        go_meet
        exact ⟨z == 0, rfl, x, p3 + 1, by omega, HS5.out⟩
    case rest =>
      obtain ⟨b, rfl, x, p4, hp4, hs⟩ := hcut
      clear HS
      have HS := Lib.hid hs
      clear hs
      go_upto_if 29 with fail
      go_cut [] (fun wx => AtSt w g gc gx v2.heap.size (p2 + 6) t (some ⟨a1, o1, none⟩) c2 wx)
      case first =>
        cases b
        · go_wp2_with fail
          go_meet
          exact ⟨x, p4, by omega, HS.out⟩
        · go_wp2_with fail
          refine (l4New_c g p4 _ HS.out.rd (by omega)).mono ?_
          rintro r w5 ⟨y, rfl, hy, hr5, hg5⟩
          have HS5 := Lib.hid (HS.out.go (Chg.of_grown hg5 HGR.out) hr5)
          obtain ⟨k0, k1, k2, k3, k4, k5⟩ := HS5.out.kx.c6
          have kl := HS5.out.kx.lt
          have kf := HS5.out.kx.frozen
          clear hy hr5 hg5
          go_wp2_with fail
          go_meet
          exact ⟨y, p4 + 4, by omega, HS5.out.put⟩
      case rest =>
        obtain ⟨x, p5, hp5, hs⟩ := hcut
        clear HS
        have HS := Lib.hid hs
        clear hs
        obtain ⟨k0, k1, k2, k3, k4, k5⟩ := HS.out.kx.c6
        have kl := HS.out.kx.lt
        go_upto_region 7 with fail
        clear k0 k1 k2 k3 k4 k5 kl
        go_cut [45] (fun s wx => AtBool w g gc gx v2.heap.size (p2 + 8) t (some ⟨a1, o1, none⟩) c2 s wx)
        case first =>
          go_wp2_with fail
          refine (pick_c g p5 8 _ HS.out.rd (by omega) (by omega)).mono ?_
          rintro r w5 ⟨z, rfl, hz, hr5, hg5⟩
          have HS5 := Lib.hid (HS.out.go (Chg.of_grown hg5 HGR.out) hr5)
          clear hz hr5 hg5
          by_cases hz0 : z = 0
          · have hz1 : (z == 0) = true := by simp [hz0]
            clear hz0
            go_wp2_with fail
            go_meet
            exact ⟨true, rfl, x, p5 + 1, by omega, HS5.out⟩
          · have hz1 : (z == 0) = false := by simp [hz0]
            clear hz0
            by_cases ht : x.tag < 0
            · go_wp2_with fail
              refine (pick_c g (p5 + 1) 2 _ HS5.out.rd (by omega) (by omega)).mono ?_
              rintro r w6 ⟨z2, rfl, hz2, hr6, hg6⟩
              have HS6 := Lib.hid (HS5.out.go (Chg.of_grown hg6 HGR.out) hr6)
              clear hz2 hr6 hg6
              go_wp2_with fail
              go_meet
              exact ⟨z2 == 0, rfl, x, p5 + 1 + 1, by omega, HS6.out⟩
            · go_wp2_with fail
              go_meet
              exact ⟨false, rfl, x, p5 + 1, by omega, HS5.out⟩
        case rest =>
          obtain ⟨b, rfl, x6, p6, hp6, hs⟩ := hcut
          clear HS
          have HS := Lib.hid hs
          have hne6 : wc.heap.size ≠ g := by have := hs.rd.lt; omega
          clear hs
          go_upto_if 45 with fail
          go_cut [8] (fun s wx => AtInt w g gc gx v2.heap.size (p2 + 9) t (some ⟨a1, o1, none⟩) c2 s wx)
          case first =>
            cases b
            · go_wp2_with fail
              go_meet
              exact ⟨x.tag, rfl, x6, p6, by omega, HS.out⟩
            · go_wp2_with fail
              refine (num_c g p6 _ 0 _ [0, 1, 2, 8, -2] _ (HS.out.rd.alloc _) (Rd.lits _ _ _) (by simp) (by simp) (by omega) hne6).mono ?_
              rintro r w5 ⟨tg, rfl, hz, hr5, hg5⟩
              have HS5 := Lib.hid (HS.out.go (((Chg.refl g (g + 1) wc).alloc _).trans (Chg.of_grown hg5 HGR.out)) hr5)
              clear hz hr5 hg5
              go_wp2_with fail
              go_meet
              exact ⟨tg, rfl, x6, p6 + 1, by omega, HS5.out⟩
          case rest =>
            obtain ⟨tg, rfl, x7, p7, hp7, hs⟩ := hcut
            clear HS
            have HS := Lib.hid hs
            have hf7 := hs.hf
            have hn5 := hs.n5
            have hn1 := hs.n1
            have hn2 := hs.n2
            have hn3 := hs.n3
            clear hs
            have hle7 := hf7.le
            have hca7 := hf7.cap
            have HF7 := Lib.hid hf7
            clear hf7
            have CW : Hid (∀ w', Rdr w' g p7 → Rd w' (some ⟨a1, o1, none⟩) t.lines → Calls Try.prog 25 #[.pointer (some ⟨g, 0, none⟩), .agg #[.slice (some ⟨a1, o1, none⟩) t.lines.length c2, .int .i64 t.hand]] w' (SomeWrong g p7 w')) := Lib.hid (fun w' h1 h2 => l4Wrong_c g p7 t _ c2 w' h1 (by omega) HD.out.few h2 hle7 hca7)
            have nR1 : gc ≠ w.heap.size := by omega
            have nR2 : gx ≠ w.heap.size := by omega
            go_wp2_with fail
            go_region_held3 (fun w' => (w'.cell? ⟨gc, 0, none⟩ = some (.slice (some ⟨a1, o1, none⟩) t.lines.length c2) ∧ w'.cell? ⟨gc, 1, none⟩ = some (.int .i64 t.hand) ∧ w'.cell? ⟨gx, 2, none⟩ = some (.int .i64 x7.page))) (first | with_reducible exact ⟨HS.out.kc.c2.1, HS.out.kc.c2.2, HS.out.kx.c6.2.2.1⟩ | with_reducible exact ⟨HS.out.kc.drew.c2.1, HS.out.kc.drew.c2.2, HS.out.kx.drew.c6.2.2.1⟩ | with_reducible exact ⟨hS.kc.c2.1, hS.kc.c2.2, hS.kx.c6.2.2.1⟩ | with_reducible exact ⟨((hS.kc.far nR1 _).far nR1 _).c2.1, ((hS.kc.far nR1 _).far nR1 _).c2.2, ((hS.kx.far nR2 _).far nR2 _).c6.2.2.1⟩ | go_keep) (first | (go_at_call 25; (with_reducible refine (CW.out _ ?_ ?_).mono ?_); (exact Rdr.drew HS.out.rd); (exact Rd.drew HF7.out.rd); rintro r wa ⟨u, B, d, p8, rfl, hfw, hfu, hra, hpa, hga⟩; have hS := HS.out.go ((Chg.refl g (g + 1) wc).drew.trans (Chg.of_grown hga HGR.out)) hra; obtain ⟨r0, r1⟩ := hS.kr.c2; have rf := hS.kr.frozen; have rl := hS.kr.lt))
            rename_i hHeld
            clear hHeld
            have HFW := Lib.hid hfw
            have HFU : Hid (Fr 43 wa wc.heap.size B d u.lines) := Lib.hid (hfu.mono (by simp))
            have HEW := Lib.hid hS.ew
            have hwc7 : w.heap.size < wc.heap.size := by have := HS.out.kr.lt; omega
            clear hfw hfu hra hpa hga hS
            go_wp2
            exact bodyPost_ret (v := .tuple #[.agg #[.slice B u.lines.length d, .int .i64 u.hand], .int .i64 tg, .int .i64 x7.page]) (by first | (simp [results, Try.results29, go_sem, r0, r1]; done) | (simp [results, Try.results29, go_sem, r0, r1, rl]; done)) rfl
              ⟨u, tg, x7.page, B, d, rfl, HFW.out, Fr.mono (B := wc.heap.size) (by have := HFU.out; repeat' (first | with_reducible exact HFU.out | with_reducible refine Fr.set_below ?_ (by first | (simp; done) | (simp; omega)) _)) (by omega), (by repeat' (first | with_reducible exact HEW.out | with_reducible refine Ex.alloc ?_ _ | with_reducible refine Ex.drew ?_ | with_reducible refine Ex.put ?_ (by omega) _))⟩
end Go.Proofs.Ytidnefcnojedoaa
