/- Joined: Uh, Ui, Uj. -/
import Derived.Test.YtbdlpbladpppjaaGreatDoorK12
import Derived.Test.YtbdlpbladpppjaaGreatDoorK19
import Derived.Test.YtbdlpbladpppjaaGreatDoorK13
namespace Go.Proofs.YtbdlpbladpppjaaGreatDoor
open Go.ChangeShapes Go.WideShapes Go.ChangeAt Go.RowKit
open Rec (sz cs)
set_option linter.unusedVariables false
set_option maxRecDepth 100000

def SomePages7 (g p : Nat) (w : World) (e : Ending) (w' : World) : Prop := ∃ (zs : List Int) (A : Option Addr) (c p' : Nat), e = .returned (.slice A zs.length c) ∧ zs.length ≤ 12 ∧ (∀ z, z ∈ zs → 0 ≤ z ∧ z < 256) ∧ Fr 3 w' w.heap.size A c zs ∧ Rdr w' g p' ∧ p' ≤ p + 20 ∧ w.grownBy w' (some g)
def PgLoop (g p : Nat) (w : World) (o i : Value) (wr : World) : Prop := ∃ (k : Nat) (zs : List Int) (A : Option Addr) (c p' : Nat), i = .int .i64 k ∧ o = .slice A zs.length c ∧ zs.length + k ≤ 12 ∧ (∀ z, z ∈ zs → 0 ≤ z ∧ z < 256) ∧ Fr 3 wr w.heap.size A c zs ∧ Rdr wr g p' ∧ p' + k ≤ p + 20 ∧ Chg g (g + 1) w wr

set_option maxHeartbeats 4000000 in
theorem l7Pages_c (g p : Nat) (w : World) (h : Rdr w g p) (hp : p ≤ 800000) : Calls Tryz.prog 34 #[.pointer (some ⟨g, 0, none⟩)] w (SomePages7 g p w) := by
 obtain ⟨i0, hi, hz0, hz1, hz2⟩ := info_parts infoInt
 have lg := h.lt
 have HR0 := zq h
 clear h
 go_enter Tryz.func34, Tryz.ntmps34
 go_wp2_with fail
 refine name_calls ?_; intro v1 hv1
 have X1 : Hid (Chg (0) (0) w v1) := zx hv1
 have t1 := X1.out.size
 have Ev1 : Hid (Chg g (g + 1) w v1) := zq ((Chg.refl g (g + 1) w).step X1.out (by omega))
 replace HR0 := zq (HR0.out.chg X1.out (by omega))
 have L1 : Hid (Rd v1 (some ⟨w.heap.size + 1, 0, none⟩) ([5, 3, 8, 2, 12, 0] : List Int)) := zq (by rw [hv1]; repeat' (first | exact Rd.lits _ _ _ | exact Rd.lits_at _ _ _ (by simp) | with_reducible refine Rd.alloc ?_ _))
 clear hv1
 refine (num_c g p _ 0 _ [5, 3, 8, 2, 12, 0] _ HR0.out L1.out (by simp) (by simp) (by omega) (by omega)).mono ?_; rintro r w1 ⟨n1, rfl, hhn1, hrd1, hb1⟩
 have Y1 : Hid (Chg (g) (g + 1) v1 w1) := zq (Chg.of_grown hb1 (fun b hb => by injection hb with hb; omega))
 have s1 := Y1.out.size
 have Ew1 : Hid (Chg g (g + 1) w w1) := zq (Ev1.out.step Y1.out (by omega))
 clear hb1
 clear HR0
 have HRD1 := zq hrd1; clear hrd1
 have HHN1 := zq hhn1; clear hhn1
 have hn3 : ∃ k : Nat, n1 = (k : Int) ∧ k ≤ 12 := ⟨n1.toNat, by have := HHN1.out; simp at this; omega, by have := HHN1.out; simp at this; omega⟩
 obtain ⟨k3, rfl, hk3⟩ := hn3
 have HST : Hid (PgLoop g p w (.slice (some ⟨w.heap.size, 0, none⟩) 0 0) (.int .i64 k3) w1) := zq ⟨k3, [], some ⟨w.heap.size, 0, none⟩, 0, p + 1, rfl, rfl, by simpa using hk3, (fun z hz => by simp at hz), Fr.none_ _ _ _ _, HRD1.out, by omega, Ew1.out⟩
 clear HHN1 HRD1
 go_wp2
 go_loopw [3, 4] (fun o i wr => PgLoop g p w o i wr) (fun _ i _ => (intOf i).toNat)
 case atStart => exact HST.out
 case round =>
  clear HST
  obtain ⟨k, zs, A, c, p', rfl, rfl, hk, hzr, hf, hrd, hpp, hch⟩ := hrel
  have HZR := zq hzr
  clear hzr
  have HF := zq hf
  have HRD := zq hrd
  have Ewr := zq hch
  have WHF := zq HF.out.row
  have hsz := Ewr.out.size
  clear hf hrd hch
  by_cases hlt : 0 < k
  ·have hlt' : (0 : Int) < (k : Int) := by omega
   go_wp2_with fail
   refine name_calls ?_; intro v5 hv5
   have X5 : Hid (Chg (0) (0) wr v5) := zx hv5
   have t5 := X5.out.size
   have Ev5 : Hid (Chg g (g + 1) w v5) := zq (Ewr.out.step X5.out (by omega))
   replace HF := zq (HF.out.chg X5.out WHF.out (by omega))
   replace HRD := zq (HRD.out.chg X5.out (by omega))
   have L5 : Hid (Rd v5 (some ⟨wr.heap.size, 0, none⟩) ([1, 2, 3, 4, 5, 6, 7, 200, 201] : List Int)) := zq (by rw [hv5]; repeat' (first | exact Rd.lits _ _ _ | exact Rd.lits_at _ _ _ (by simp) | with_reducible refine Rd.alloc ?_ _))
   clear hv5
   refine (num_c g p' _ 0 _ [1, 2, 3, 4, 5, 6, 7, 200, 201] _ HRD.out L5.out (by simp) (by simp) (by omega) (by omega)).mono ?_; rintro r w5 ⟨z5, rfl, hhz5, hrd5, hb5⟩
   have Y5 : Hid (Chg (g) (g + 1) v5 w5) := zq (Chg.of_grown hb5 (fun b hb => by injection hb with hb; omega))
   have s5 := Y5.out.size
   have Ew5 : Hid (Chg g (g + 1) w w5) := zq (Ev5.out.step Y5.out (by omega))
   clear hb5
   replace HF := zq (HF.out.chg Y5.out WHF.out (by omega))
   clear HRD
   have HRD5 := zq hrd5; clear hrd5
   have HHZ5 := zq hhz5; clear hhz5
   have h63 : zs.length + 1 ≤ maxLen := by simp [maxLen]; omega
   have hby : (zs.length + 1) * 8 ≤ 140737488355328 := by omega
   have hkk : (k : Int) - 1 = ((k - 1 : Nat) : Int) := by omega
   have HKK := zq hkk
   clear hkk
   go_wp2_with (at_builtin; refine wpList_append_fr (α := Int) rfl _ _ 23 rfl 3 i0 _ 8 w.heap.size Tryz.underlying23 hi hz0 hz1 hz2 rfl _ _ _ zs rfl rfl (HF.out.alloc _) _ 1 1 [z5] rfl rfl (one_int _ _) h63 hby (by simp <;> omega) ?_)
   intro A6 c6 w6 ha
   have HA := zq ha
   clear ha
   have Y6 : Hid (Chg w.heap.size wr.heap.size w5 w6) := zq (((Chg.refl _ _ w5).alloc _).trans (Chg.of_grown HA.out.grown WHF.out))
   have HL : Hid ((zs ++ [z5]).length = zs.length + 1) := zq (by simp)
   go_wp2
   go_roundw
   case rel => exact ⟨k - 1, zs ++ [z5], A6, c6, p' + 1, by rw [HKK.out], by rw [HL.out], by rw [HL.out]; omega, (fun z hz => by
    rcases List.mem_append.1 hz with h | h
    ·exact HZR.out z h
    ·simp at h; subst h; have := HHZ5.out; simp at this; omega), HA.out.fr, HRD5.out.chg Y6.out (.inl lg), by omega, Ew5.out.step Y6.out (.inr (.inl (Nat.le_refl _)))⟩
   case measure => simp [intOf]; omega
  ·obtain rfl : k = 0 := by omega
   go_wp2
   go_ret
   exact ⟨zs, A, c, p', rfl, by omega, HZR.out, HF.out, HRD.out, by omega, Chg.grown Ewr.out⟩

/-- Some memory comes back, and the reader has gone on. -/
def SomeMem (g p lo k : Nat) (P : MemD → Prop) (w : World) (e : Ending) (w' : World) : Prop := ∃ (m : MemD) (a : MA) (K : Option Addr) (kc p' : Nat), e = .returned (.agg #[.slice a.b m.mach.table.buckets.length a.bc, .slice a.f m.mach.table.frames.length a.fc, .slice a.l m.mach.cache.lines.length a.lc, .int .i64 m.mach.cache.hand, .int .i64 m.mach.tags.count, .int .i64 m.mach.tags.next, .int .i64 m.mach.tags.round, .slice a.o m.mach.tags.owns.length a.oc, .int .i64 m.mach.space, .slice K m.marks.length kc, .int .i64 m.hand]) ∧ P m ∧ FrE w' lo m a K kc ∧ Rdr w' g p' ∧ p' ≤ p + k ∧ w.grownBy w' (some g)
theorem FrE.chg1 {w w' : World} {B g : Nat} {m : MemD} {a : MA} {K : Option Addr} {k : Nat} (h : FrE w B m a K k) (c : Chg g (g + 1) w w') (hg : g < B) : FrE w' B m a K k :=
 ⟨⟨h.m.b.chg c h.m.b.row (.inr (.inl hg)), h.m.f.chg c h.m.f.row (.inr (.inl hg)), h.m.l.chg c h.m.l.row (.inr (.inl hg)), h.m.o.chg c h.m.o.row (.inr (.inl hg))⟩, h.k.chg c h.k.row (.inr (.inl hg))⟩
def DrCut (g gM p : Nat) (w : World) (q : MemD) (aq : MA) (Kq : Option Addr) (kq : Nat) (s t : Value) (wx : World) : Prop := ∃ (gN : Nat) (n : MemD) (ok : Bool) (an : MA) (Kn : Option Addr) (kn p' : Nat), s = .pointer (some ⟨gN, 0, none⟩) ∧ t = .bool ok ∧ (ok = true → MemOk n) ∧ Blk wx gN 37 [.slice an.b n.mach.table.buckets.length an.bc, .slice an.f n.mach.table.frames.length an.fc, .slice an.l n.mach.cache.lines.length an.lc, .int .i64 n.mach.cache.hand, .int .i64 n.mach.tags.count, .int .i64 n.mach.tags.next, .int .i64 n.mach.tags.round, .slice an.o n.mach.tags.owns.length an.oc, .int .i64 n.mach.space, .slice Kn n.marks.length kn, .int .i64 n.hand] ∧ FrE wx w.heap.size n an Kn kn ∧ Blk wx gM 37 [.slice aq.b q.mach.table.buckets.length aq.bc, .slice aq.f q.mach.table.frames.length aq.fc, .slice aq.l q.mach.cache.lines.length aq.lc, .int .i64 q.mach.cache.hand, .int .i64 q.mach.tags.count, .int .i64 q.mach.tags.next, .int .i64 q.mach.tags.round, .slice aq.o q.mach.tags.owns.length aq.oc, .int .i64 q.mach.space, .slice Kq q.marks.length kq, .int .i64 q.hand] ∧ FrE wx w.heap.size q aq Kq kq ∧ Rdr wx g p' ∧ p' ≤ p + 20 ∧ Chg g (g + 1) w wx ∧ Blk wx w.heap.size 37 [.slice none 0 0, .slice none 0 0, .slice none 0 0, .int .i64 0, .int .i64 0, .int .i64 0, .int .i64 0, .slice none 0 0, .int .i64 0, .slice none 0 0, .int .i64 0] ∧ gM < gN

set_option maxHeartbeats 16000000 in
theorem l7Draw_c (g p : Nat) (w : World) (h : Rdr w g p) (hp : p ≤ 600000) : Calls Tryz.prog 18 #[.pointer (some ⟨g, 0, none⟩)] w (SomeMem g p w.heap.size 200 MemOk w) := by
 have lg := h.lt
 have HR0 := zq h
 have CUS := zq usesS_c
 have CPG0 := zq l7Pages_c
 have CE0 : Hid (∀ (args : Array Value) (w : World), (callFunc 34 args).run Tryz.prog w = .ok (.enter 34 args) w) := zq (enters Tryz.func34 (by kernel_rfl) (by kernel_rfl))
 have CE1 : Hid (∀ (args : Array Value) (w : World), (callFunc 33 args).run Tryz.prog w = .ok (.enter 33 args) w) := zq (enters Tryz.func33 (by kernel_rfl) (by kernel_rfl))
 clear h
 go_enter Tryz.func18, Tryz.ntmps18
 go_wp2_with fail
 refine name_calls ?_; intro v1 hv1
 have X1 : Hid (Chg (0) (0) w v1) := zx hv1
 have t1 := X1.out.size
 have Ev1 : Hid (Chg g (g + 1) w v1) := zq ((Chg.refl g (g + 1) w).step X1.out (by omega))
 replace HR0 := zq (HR0.out.chg X1.out (by omega))
 have KR : Hid (Blk v1 (w.heap.size) 37 [.slice none 0 0, .slice none 0 0, .slice none 0 0, .int .i64 0, .int .i64 0, .int .i64 0, .int .i64 0, .slice none 0 0, .int .i64 0, .slice none 0 0, .int .i64 0]) := zk hv1
 have lR : w.heap.size < v1.heap.size := KR.out.lt
 clear hv1
 refine (l6Draw_c g p _ HR0.out (by omega)).mono ?_; rintro r w1 ⟨m1, a1, p1, rfl, hm1, ⟨hfa, hfb, hfc, hfd⟩, hrd1, hp1, hb1⟩
 have Y1 : Hid (Chg (g) (g + 1) v1 w1) := zq (Chg.of_grown hb1 (fun b hb => by injection hb with hb; omega))
 have s1 := Y1.out.size
 have Ew1 : Hid (Chg g (g + 1) w w1) := zq (Ev1.out.step Y1.out (by omega))
 clear hb1
 replace KR := zq (KR.out.chg Y1.out (by omega))
 clear HR0
 have HFA := zq hfa; clear hfa
 have WHFA := zq HFA.out.row
 have HFB := zq hfb; clear hfb
 have WHFB := zq HFB.out.row
 have HFC := zq hfc; clear hfc
 have WHFC := zq HFC.out.row
 have HFD := zq hfd; clear hfd
 have WHFD := zq HFD.out.row
 have HRD1 := zq hrd1; clear hrd1
 obtain ⟨qR0, qR1, qR2, qR3, qR4, qR5, qR6, qR7, qR8, qR9, qR10⟩ := KR.out.c11
 have jR := KR.out.lt
 obtain ⟨q, hq⟩ : ∃ q, q = newMem m1 := ⟨_, rfl⟩
 have C2 := zq (fun w' (h : FrM w' v1.heap.size m1 a1) => newMemS_c m1 a1 w' hm1 h.has h.cap h.capx)
 have HQ : Hid (MemOk q) := zq (by rw [hq]; exact MemOk.new hm1)
 rw [← hq] at C2
 unfold MemYes at C2
 clear hq hm1
 go_wp2_with fail
 refine name_calls ?_; intro v2 hv2
 have X2 : Hid (Chg (0) (0) w1 v2) := zx hv2
 have t2 := X2.out.size
 have Ev2 : Hid (Chg g (g + 1) w v2) := zq (Ew1.out.step X2.out (by omega))
 clear qR0 qR1 qR2 qR3 qR4 qR5 qR6 qR7 qR8 qR9 qR10 jR
 replace KR := zq (KR.out.chg X2.out (by omega))
 replace HFA := zq (HFA.out.chg X2.out WHFA.out (by omega))
 replace HFB := zq (HFB.out.chg X2.out WHFB.out (by omega))
 replace HFC := zq (HFC.out.chg X2.out WHFC.out (by omega))
 replace HFD := zq (HFD.out.chg X2.out WHFD.out (by omega))
 replace HRD1 := zq (HRD1.out.chg X2.out (by omega))
 clear hv2
 refine (C2.out _ ⟨HFA.out, HFB.out, HFC.out, HFD.out⟩).mono ?_; rintro r w2 ⟨aq, Kq, kq, rfl, hhe2, hb2⟩
 have Y2 := zq (Chg.of_ex hb2)
 have s2 := Y2.out.size
 have Ew2 : Hid (Chg g (g + 1) w w2) := zq (Ev2.out.step Y2.out (by omega))
 clear hb2
 replace KR := zq (KR.out.chg Y2.out (by omega))
 replace HFA := zq (HFA.out.chg Y2.out WHFA.out (by omega))
 replace HFB := zq (HFB.out.chg Y2.out WHFB.out (by omega))
 replace HFC := zq (HFC.out.chg Y2.out WHFC.out (by omega))
 replace HFD := zq (HFD.out.chg Y2.out WHFD.out (by omega))
 replace HRD1 := zq (HRD1.out.chg Y2.out (by omega))
 have HHE2 := zq hhe2; clear hhe2
 obtain ⟨qR0, qR1, qR2, qR3, qR4, qR5, qR6, qR7, qR8, qR9, qR10⟩ := KR.out.c11
 have jR := KR.out.lt
 have HRD2 := zq HRD1.out
 have KR2 : Hid (Blk w2 w.heap.size 37 [.slice none 0 0, .slice none 0 0, .slice none 0 0, .int .i64 0, .int .i64 0, .int .i64 0, .int .i64 0, .slice none 0 0, .int .i64 0, .slice none 0 0, .int .i64 0]) := zq KR.out
 have EW2 : Hid (Chg g (g + 1) w w2) := zq Ew2.out
 have HE2 : Hid (FrE w2 w.heap.size q aq Kq kq) := zq (HHE2.out.mono (by omega))
 have hgw2 : w.heap.size < w2.heap.size := by omega
 clear HHE2 C2
 clear qR0 qR1 qR2 qR3 qR4 qR5 qR6 qR7 qR8 qR9 qR10 jR
 clear KR
 go_wp2_with fail
 refine name_code ?_
 intro wc hwc
 obtain ⟨gM, hgM⟩ : ∃ gM, gM = w2.heap.size := ⟨_, rfl⟩
 have KM : Hid (Blk wc gM 37 [.slice aq.b q.mach.table.buckets.length aq.bc, .slice aq.f q.mach.table.frames.length aq.fc, .slice aq.l q.mach.cache.lines.length aq.lc, .int .i64 q.mach.cache.hand, .int .i64 q.mach.tags.count, .int .i64 q.mach.tags.next, .int .i64 q.mach.tags.round, .slice aq.o q.mach.tags.owns.length aq.oc, .int .i64 q.mach.space, .slice Kq q.marks.length kq, .int .i64 q.hand]) := zq (by rw [hwc, hgM]; exact Blk.new _ _ _)
 have HEc : Hid (FrE wc w.heap.size q aq Kq kq) := zq (by rw [hwc]; exact HE2.out.ex ((Ex.refl _).alloc _))
 have KR : Hid (Blk wc w.heap.size 37 [.slice none 0 0, .slice none 0 0, .slice none 0 0, .int .i64 0, .int .i64 0, .int .i64 0, .int .i64 0, .slice none 0 0, .int .i64 0, .slice none 0 0, .int .i64 0]) := zq (by rw [hwc]; exact KR2.out.alloc _)
 have EX : Hid (Chg g (g + 1) w wc) := zq (by rw [hwc]; exact EW2.out.alloc _)
 have HRD : Hid (Rdr wc g p1) := zq (by rw [hwc]; exact HRD2.out.alloc _)
 have hwM : w.heap.size < gM := by omega
 rw [← hgM]
 have hMc : gM < wc.heap.size := KM.out.lt
 have HME : Hid (∀ w', Chg g (g + 1) wc w' → FrE w' w.heap.size q aq Kq kq) := zq (fun w' h => HEc.out.chg1 h (by omega))
 have FKO : Hid (∀ w', Chg g (g + 1) wc w' → (w'.cell? ⟨gM, 0, none⟩ = some (.slice aq.b q.mach.table.buckets.length aq.bc) ∧ w'.cell? ⟨gM, 1, none⟩ = some (.slice aq.f q.mach.table.frames.length aq.fc) ∧ w'.cell? ⟨gM, 2, none⟩ = some (.slice aq.l q.mach.cache.lines.length aq.lc) ∧ w'.cell? ⟨gM, 3, none⟩ = some (.int .i64 q.mach.cache.hand) ∧ w'.cell? ⟨gM, 4, none⟩ = some (.int .i64 q.mach.tags.count) ∧ w'.cell? ⟨gM, 5, none⟩ = some (.int .i64 q.mach.tags.next) ∧ w'.cell? ⟨gM, 6, none⟩ = some (.int .i64 q.mach.tags.round) ∧ w'.cell? ⟨gM, 7, none⟩ = some (.slice aq.o q.mach.tags.owns.length aq.oc) ∧ w'.cell? ⟨gM, 8, none⟩ = some (.int .i64 q.mach.space) ∧ w'.cell? ⟨gM, 9, none⟩ = some (.slice Kq q.marks.length kq) ∧ w'.cell? ⟨gM, 10, none⟩ = some (.int .i64 q.hand))) := zq (fun w' h => (KM.out.chg h (by omega)).c11)
 have CPG : Hid (∀ w', Rdr w' g p1 → Calls Tryz.prog 34 #[.pointer (some ⟨g, 0, none⟩)] w' (SomePages7 g p1 w')) := zq (fun w' h => CPG0.out g p1 w' h (by omega))
 have CUP : Hid (∀ (zs : List Int) (Az : Option Addr) (cz : Nat) w', FrE w' w.heap.size q aq Kq kq → Rd w' Az zs → zs.length ≤ 12 → (∀ z, z ∈ zs → 0 ≤ z ∧ z < 256) → Calls Tryz.prog 33 #[.agg #[.slice aq.b q.mach.table.buckets.length aq.bc, .slice aq.f q.mach.table.frames.length aq.fc, .slice aq.l q.mach.cache.lines.length aq.lc, .int .i64 q.mach.cache.hand, .int .i64 q.mach.tags.count, .int .i64 q.mach.tags.next, .int .i64 q.mach.tags.round, .slice aq.o q.mach.tags.owns.length aq.oc, .int .i64 q.mach.space, .slice Kq q.marks.length kq, .int .i64 q.hand], .slice Az zs.length cz] w' (UsedPs w')) := zq (fun zs Az cz w' h1 h2 h3 h4 => CUS.out q aq Kq kq zs Az cz w' HQ.out h1.has h1.cap h1.m.capx h1.k.cap h2 (by omega) h4)
 unfold SomePages7 at CPG
 unfold UsedPs at CUP
 have hwcz := EX.out.size
 clear hwc hgM HRD2 KR2 EW2 HE2 CUS CPG0
 go_cut [5, 7] (fun s t wx => DrCut g gM p1 w q aq Kq kq s t wx)
 case first =>
  refine wp_region_held_drew (S := (fun w' => (w'.cell? ⟨gM, 0, none⟩ = some (.slice aq.b q.mach.table.buckets.length aq.bc) ∧ w'.cell? ⟨gM, 1, none⟩ = some (.slice aq.f q.mach.table.frames.length aq.fc) ∧ w'.cell? ⟨gM, 2, none⟩ = some (.slice aq.l q.mach.cache.lines.length aq.lc) ∧ w'.cell? ⟨gM, 3, none⟩ = some (.int .i64 q.mach.cache.hand) ∧ w'.cell? ⟨gM, 4, none⟩ = some (.int .i64 q.mach.tags.count) ∧ w'.cell? ⟨gM, 5, none⟩ = some (.int .i64 q.mach.tags.next) ∧ w'.cell? ⟨gM, 6, none⟩ = some (.int .i64 q.mach.tags.round) ∧ w'.cell? ⟨gM, 7, none⟩ = some (.slice aq.o q.mach.tags.owns.length aq.oc) ∧ w'.cell? ⟨gM, 8, none⟩ = some (.int .i64 q.mach.space) ∧ w'.cell? ⟨gM, 9, none⟩ = some (.slice Kq q.marks.length kq) ∧ w'.cell? ⟨gM, 10, none⟩ = some (.int .i64 q.hand)))) (by kernel_rfl) ?r1_hS0 (fun hHeld => ?_)
  case r1_hS0 => exact FKO.out _ (Chg.refl _ _ _).drew
  refine tk 0 ?_; refine tk 1 ?_
  refine wpAnyH_ready (rs := [2, 8]) (by kernel_rfl) (by simp) ?_
  refine AllReadyH.cons (o := ?r1_o0) ?r1_ho0 (fun K hK => ?r1_b0) (AllReadyH.cons (o := ?r1_o1) ?r1_ho1 (fun K hK => ?r1_b1) AllReadyH.nil)
  case r1_ho0 => (conv => lhs; whnf; arg 1; whnf)
  case r1_ho1 => (conv => lhs; whnf; arg 1; whnf)
  case r1_b0 =>
   refine step_call_gu rfl CE0.out _ _ rfl #[.pointer (some ⟨g, 0, none⟩)] rfl (CPG.out _ (by with_reducible repeat' (first | exact HRD.out | refine Rdr.alloc ?_ _ | refine Rdr.drew ?_))) ?_; rintro r wf0 ⟨zs, Az, cz, p3, rfl, hzl, hzr, hfz, hrz, hpz, hb0⟩; refine ⟨_, rfl, ?_⟩; have hE0 : Chg g (g + 1) wc wf0 := Chg.trans (by with_reducible repeat' (first | exact Chg.refl _ _ _ | exact hE1 | exact hE0 | refine Chg.alloc ?_ _ | refine Chg.drew ?_)) (Chg.of_grown (lo := g) (hi := g + 1) hb0 (fun b hb => by injection hb with hb; omega)); have hz0 := hE0.size; have hy0 := hb0.size
   refine hK.out _ _ ?r1_hS0 (fun hHeld0 => ?_)
   case r1_hS0 => exact FKO.out _ hE0
   clear hK K hHeld
   try simp only [Act.put, List.setIfInBounds_toArray, List.set_cons_zero, List.set_cons_succ]
   refine wpAnyH_ready (rs := [3, 8]) (by kernel_rfl) (by simp) ?_
   refine AllReadyH.cons (o := ?r1_o2) ?r1_ho2 (fun K hK => ?r1_b2) (AllReadyH.cons (o := ?r1_o3) ?r1_ho3 (fun K hK => ?r1_b3) AllReadyH.nil)
   case r1_ho2 => (conv => lhs; whnf; arg 1; whnf)
   case r1_ho3 => (conv => lhs; whnf; arg 1; whnf)
   case r1_b2 =>
    refine step_call_gu rfl CE1.out _ _ rfl #[.agg #[.slice aq.b q.mach.table.buckets.length aq.bc, .slice aq.f q.mach.table.frames.length aq.fc, .slice aq.l q.mach.cache.lines.length aq.lc, .int .i64 q.mach.cache.hand, .int .i64 q.mach.tags.count, .int .i64 q.mach.tags.next, .int .i64 q.mach.tags.round, .slice aq.o q.mach.tags.owns.length aq.oc, .int .i64 q.mach.space, .slice Kq q.marks.length kq, .int .i64 q.hand], .slice Az zs.length cz] rfl (CUP.out zs Az cz _ (HME.out _ (by with_reducible repeat' (first | exact Chg.refl _ _ _ | exact hE1 | exact hE0 | refine Chg.alloc ?_ _ | refine Chg.drew ?_))) (by with_reducible repeat' (first | exact hfz.rd | refine Rd.alloc ?_ _)) hzl hzr) ?_; rintro r wf1 ⟨n, ok, vv, an, Kn, kn, rfl, hok, hfn, hb1⟩; refine ⟨_, rfl, ?_⟩; have hE1 : Chg g (g + 1) wc wf1 := Chg.trans (by with_reducible repeat' (first | exact Chg.refl _ _ _ | exact hE1 | exact hE0 | refine Chg.alloc ?_ _ | refine Chg.drew ?_)) ((Chg.of_ex hb1).mono' g (g + 1)); have hz1 := hE1.size; have hy1 := hb1.size
    refine hK.out _ _ ?r1_hS2 (fun hHeld2 => ?_)
    case r1_hS2 => exact FKO.out _ hE1
    clear hK K hHeld0
    try simp only [Act.put, List.setIfInBounds_toArray, List.set_cons_zero, List.set_cons_succ]
    refine tk 4 ?_; refine tk 5 ?_; refine tk 6 ?_; refine tk 7 ?_
    refine wpAnyH_ready (rs := [8]) (by kernel_rfl) (by simp) ?_
    refine AllReadyH.cons (o := ?r1_o4) ?r1_ho4 (fun K hK => ?r1_b4) AllReadyH.nil
    case r1_ho4 => (conv => lhs; whnf; arg 1; whnf)
    case' r1_b4 => skip
    go_simp
    refine hK.out _ _ ?r1_hS4 (fun hHeld4 => ?_)
    case r1_hS4 => exact FKO.out _ (by with_reducible repeat' (first | exact Chg.refl _ _ _ | exact hE1 | exact hE0 | refine Chg.alloc ?_ _ | refine Chg.drew ?_))
    clear hK K hHeld2
    try simp only [Act.put, List.setIfInBounds_toArray, List.set_cons_zero, List.set_cons_succ]
    refine wpAnyH_ready (rs := [9]) (by kernel_rfl) (by simp) ?_
    refine AllReadyH.cons (o := ?r1_o5) ?r1_ho5 (fun K hK => ?r1_b5) AllReadyH.nil
    case r1_ho5 => (conv => lhs; whnf; arg 1; whnf)
    case' r1_b5 => skip
    go_simp
    refine hK.out _ _ ?r1_hS5 (fun hHeld5 => ?_)
    case r1_hS5 => exact FKO.out _ (by with_reducible repeat' (first | exact hE1 | exact hE0 | refine Chg.alloc ?_ _ | refine Chg.set ?_ (by omega) _))
    clear hK K hHeld4
    try simp only [Act.put, List.setIfInBounds_toArray, List.set_cons_zero, List.set_cons_succ]
    refine tk 10 ?_; refine tk 11 ?_
    refine wpAnyH_done (by kernel_rfl) ?_ _
    clear hHeld5
    have HQ1 : Hid (FrE wf1 w.heap.size n an Kn kn) := zq (FrE.mono hfn (by first | omega | (simp; omega)))
    have HQ2 : Hid (FrE wf1 w.heap.size q aq Kq kq) := zq (HME.out _ hE1)
    have HQ3 : Hid (Blk wf1 gM 37 [.slice aq.b q.mach.table.buckets.length aq.bc, .slice aq.f q.mach.table.frames.length aq.fc, .slice aq.l q.mach.cache.lines.length aq.lc, .int .i64 q.mach.cache.hand, .int .i64 q.mach.tags.count, .int .i64 q.mach.tags.next, .int .i64 q.mach.tags.round, .slice aq.o q.mach.tags.owns.length aq.oc, .int .i64 q.mach.space, .slice Kq q.marks.length kq, .int .i64 q.hand]) := zq (KM.out.chg hE1 (by omega))
    have HQ4 : Hid (Blk wf1 w.heap.size 37 [.slice none 0 0, .slice none 0 0, .slice none 0 0, .int .i64 0, .int .i64 0, .int .i64 0, .int .i64 0, .slice none 0 0, .int .i64 0, .slice none 0 0, .int .i64 0]) := zq (KR.out.chg hE1 (by omega))
    have HQ5 : Hid (Chg g (g + 1) w wf1) := zq (EX.out.trans hE1)
    have HQ7 : Hid (Rdr wf1 g p3) := zq (Rdr.ex (by with_reducible repeat' (first | exact hrz | refine Rdr.alloc ?_ _)) hb1)
    have HOK := zq hok
    clear hfn hok hrz
    go_wp2_with fail
    go_meet
    exact ⟨wf1.heap.size, n, ok, an, Kn, kn, p3, rfl, rfl, HOK.out, Blk.new _ _ _, ⟨⟨HQ1.out.m.b.alloc _, HQ1.out.m.f.alloc _, HQ1.out.m.l.alloc _, HQ1.out.m.o.alloc _⟩, HQ1.out.k.alloc _⟩, (zf HQ3.out), ⟨⟨HQ2.out.m.b.alloc _, HQ2.out.m.f.alloc _, HQ2.out.m.l.alloc _, HQ2.out.m.o.alloc _⟩, HQ2.out.k.alloc _⟩, HQ7.out.alloc _, by omega, (zc HQ5.out), (zf HQ4.out), by omega⟩
   case r1_b3 =>
    go_simp
    refine hK.out _ _ ?r1_hS3 (fun hHeld3 => ?_)
    case r1_hS3 => exact FKO.out _ (by with_reducible repeat' (first | exact Chg.refl _ _ _ | exact hE1 | exact hE0 | refine Chg.alloc ?_ _ | refine Chg.drew ?_))
    clear hK K hHeld0
    try simp only [Act.put, List.setIfInBounds_toArray, List.set_cons_zero, List.set_cons_succ]
    refine wpAnyH_ready (rs := [3]) (by kernel_rfl) (by simp) ?_
    refine AllReadyH.cons (o := ?r1_o6) ?r1_ho6 (fun K hK => ?r1_b6) AllReadyH.nil
    case r1_ho6 => (conv => lhs; whnf; arg 1; whnf)
    case' r1_b6 => skip
    refine step_call_gu rfl CE1.out _ _ rfl #[.agg #[.slice aq.b q.mach.table.buckets.length aq.bc, .slice aq.f q.mach.table.frames.length aq.fc, .slice aq.l q.mach.cache.lines.length aq.lc, .int .i64 q.mach.cache.hand, .int .i64 q.mach.tags.count, .int .i64 q.mach.tags.next, .int .i64 q.mach.tags.round, .slice aq.o q.mach.tags.owns.length aq.oc, .int .i64 q.mach.space, .slice Kq q.marks.length kq, .int .i64 q.hand], .slice Az zs.length cz] rfl (CUP.out zs Az cz _ (HME.out _ (by with_reducible repeat' (first | exact Chg.refl _ _ _ | exact hE1 | exact hE0 | refine Chg.alloc ?_ _ | refine Chg.drew ?_))) (by with_reducible repeat' (first | exact hfz.rd | refine Rd.alloc ?_ _)) hzl hzr) ?_; rintro r wf1 ⟨n, ok, vv, an, Kn, kn, rfl, hok, hfn, hb1⟩; refine ⟨_, rfl, ?_⟩; have hE1 : Chg g (g + 1) wc wf1 := Chg.trans (by with_reducible repeat' (first | exact Chg.refl _ _ _ | exact hE1 | exact hE0 | refine Chg.alloc ?_ _ | refine Chg.drew ?_)) ((Chg.of_ex hb1).mono' g (g + 1)); have hz1 := hE1.size; have hy1 := hb1.size; have hB1 := Blk.chg (Blk.new wf0 37 [.slice none 0 0, .slice none 0 0, .slice none 0 0, .int .i64 0, .int .i64 0, .int .i64 0, .int .i64 0, .slice none 0 0, .int .i64 0, .slice none 0 0, .int .i64 0]) (((Chg.of_ex hb1).mono' g (g + 1))) (by omega)
    refine hK.out _ _ ?r1_hS6 (fun hHeld6 => ?_)
    case r1_hS6 => exact FKO.out _ hE1
    clear hK K hHeld3
    try simp only [Act.put, List.setIfInBounds_toArray, List.set_cons_zero, List.set_cons_succ]
    refine tk 4 ?_; refine tk 5 ?_; refine tk 6 ?_; refine tk 7 ?_
    refine wpAnyH_ready (rs := [9]) (by kernel_rfl) (by simp) ?_
    refine AllReadyH.cons (o := ?r1_o7) ?r1_ho7 (fun K hK => ?r1_b7) AllReadyH.nil
    case r1_ho7 => (conv => lhs; whnf; arg 1; whnf)
    case' r1_b7 => skip
    obtain ⟨hr0, hr1, hr2, hr3, hr4, hr5, hr6, hr7, hr8, hr9, hr10⟩ := hB1.c11; have hrf := hB1.frozen; have hrl := hB1.lt; go_simp
    refine hK.out _ _ ?r1_hS7 (fun hHeld7 => ?_)
    case r1_hS7 => exact FKO.out _ (by with_reducible repeat' (first | exact hE1 | exact hE0 | refine Chg.alloc ?_ _ | refine Chg.set ?_ (by omega) _))
    clear hK K hHeld6
    try simp only [Act.put, List.setIfInBounds_toArray, List.set_cons_zero, List.set_cons_succ]
    refine tk 10 ?_; refine tk 11 ?_
    refine wpAnyH_done (by kernel_rfl) ?_ _
    clear hHeld7
    have HQ1 : Hid (FrE wf1 w.heap.size n an Kn kn) := zq (FrE.mono hfn (by first | omega | (simp; omega)))
    have HQ2 : Hid (FrE wf1 w.heap.size q aq Kq kq) := zq (HME.out _ hE1)
    have HQ3 : Hid (Blk wf1 gM 37 [.slice aq.b q.mach.table.buckets.length aq.bc, .slice aq.f q.mach.table.frames.length aq.fc, .slice aq.l q.mach.cache.lines.length aq.lc, .int .i64 q.mach.cache.hand, .int .i64 q.mach.tags.count, .int .i64 q.mach.tags.next, .int .i64 q.mach.tags.round, .slice aq.o q.mach.tags.owns.length aq.oc, .int .i64 q.mach.space, .slice Kq q.marks.length kq, .int .i64 q.hand]) := zq (KM.out.chg hE1 (by omega))
    have HQ4 : Hid (Blk wf1 w.heap.size 37 [.slice none 0 0, .slice none 0 0, .slice none 0 0, .int .i64 0, .int .i64 0, .int .i64 0, .int .i64 0, .slice none 0 0, .int .i64 0, .slice none 0 0, .int .i64 0]) := zq (KR.out.chg hE1 (by omega))
    have HQ5 : Hid (Chg g (g + 1) w wf1) := zq (EX.out.trans hE1)
    have HQ7 : Hid (Rdr wf1 g p3) := zq (Rdr.ex (by with_reducible repeat' (first | exact hrz | refine Rdr.alloc ?_ _)) hb1)
    have HOK := zq hok
    have HQ6 := zq hB1
    have HRa := zq (HQ1.out.m.b.off HQ6.out (by decide))
    have HRb := zq (HQ1.out.m.f.off HQ6.out (by decide))
    have HRc := zq (HQ1.out.m.l.off HQ6.out (by decide))
    have HRd := zq (HQ1.out.m.o.off HQ6.out (by decide))
    have HRe := zq (HQ1.out.k.off HQ6.out (by decide))
    have HSa := zq (HQ2.out.m.b.off HQ6.out (by decide))
    have HSb := zq (HQ2.out.m.f.off HQ6.out (by decide))
    have HSc := zq (HQ2.out.m.l.off HQ6.out (by decide))
    have HSd := zq (HQ2.out.m.o.off HQ6.out (by decide))
    have HSe := zq (HQ2.out.k.off HQ6.out (by decide))
    clear hfn hok hrz
    go_wp2_with fail
    go_meet
    exact ⟨wf0.heap.size, n, ok, an, Kn, kn, p3, rfl, rfl, HOK.out, Blk.put11 HQ6.out, ⟨⟨(zr HQ1.out.m.b HRa.out), (zr HQ1.out.m.f HRb.out), (zr HQ1.out.m.l HRc.out), (zr HQ1.out.m.o HRd.out)⟩, (zr HQ1.out.k HRe.out)⟩, (zf HQ3.out), ⟨⟨(zr HQ2.out.m.b HSa.out), (zr HQ2.out.m.f HSb.out), (zr HQ2.out.m.l HSc.out), (zr HQ2.out.m.o HSd.out)⟩, (zr HQ2.out.k HSe.out)⟩, Rdr.chg (lo := w.heap.size) (hi := wf0.heap.size + 1) HQ7.out (by with_reducible repeat' (first | exact Chg.refl _ _ wf1 | refine Chg.alloc ?_ _ | refine Chg.set ?_ (by omega) _)) (by omega), by omega, (zc HQ5.out), (zf HQ4.out), by omega⟩
  case r1_b1 =>
   go_simp
   refine hK.out _ _ ?r1_hS1 (fun hHeld1 => ?_)
   case r1_hS1 => exact FKO.out _ (by with_reducible repeat' (first | exact Chg.refl _ _ _ | exact hE1 | exact hE0 | refine Chg.alloc ?_ _ | refine Chg.drew ?_))
   clear hK K hHeld
   try simp only [Act.put, List.setIfInBounds_toArray, List.set_cons_zero, List.set_cons_succ]
   refine wpAnyH_ready (rs := [2]) (by kernel_rfl) (by simp) ?_
   refine AllReadyH.cons (o := ?r1_o8) ?r1_ho8 (fun K hK => ?r1_b8) AllReadyH.nil
   case r1_ho8 => (conv => lhs; whnf; arg 1; whnf)
   case' r1_b8 => skip
   refine step_call_gu rfl CE0.out _ _ rfl #[.pointer (some ⟨g, 0, none⟩)] rfl (CPG.out _ (by with_reducible repeat' (first | exact HRD.out | refine Rdr.alloc ?_ _ | refine Rdr.drew ?_))) ?_; rintro r wf0 ⟨zs, Az, cz, p3, rfl, hzl, hzr, hfz, hrz, hpz, hb0⟩; refine ⟨_, rfl, ?_⟩; have hE0 : Chg g (g + 1) wc wf0 := Chg.trans (by with_reducible repeat' (first | exact Chg.refl _ _ _ | exact hE1 | exact hE0 | refine Chg.alloc ?_ _ | refine Chg.drew ?_)) (Chg.of_grown (lo := g) (hi := g + 1) hb0 (fun b hb => by injection hb with hb; omega)); have hz0 := hE0.size; have hy0 := hb0.size; have hB0 := Blk.chg (Blk.new wc 37 [.slice none 0 0, .slice none 0 0, .slice none 0 0, .int .i64 0, .int .i64 0, .int .i64 0, .int .i64 0, .slice none 0 0, .int .i64 0, .slice none 0 0, .int .i64 0]).drew ((Chg.of_grown (lo := g) (hi := g + 1) hb0 (fun b hb => by injection hb with hb; omega))) (by omega)
   refine hK.out _ _ ?r1_hS8 (fun hHeld8 => ?_)
   case r1_hS8 => exact FKO.out _ hE0
   clear hK K hHeld1
   try simp only [Act.put, List.setIfInBounds_toArray, List.set_cons_zero, List.set_cons_succ]
   refine wpAnyH_ready (rs := [3]) (by kernel_rfl) (by simp) ?_
   refine AllReadyH.cons (o := ?r1_o9) ?r1_ho9 (fun K hK => ?r1_b9) AllReadyH.nil
   case r1_ho9 => (conv => lhs; whnf; arg 1; whnf)
   case' r1_b9 => skip
   refine step_call_gu rfl CE1.out _ _ rfl #[.agg #[.slice aq.b q.mach.table.buckets.length aq.bc, .slice aq.f q.mach.table.frames.length aq.fc, .slice aq.l q.mach.cache.lines.length aq.lc, .int .i64 q.mach.cache.hand, .int .i64 q.mach.tags.count, .int .i64 q.mach.tags.next, .int .i64 q.mach.tags.round, .slice aq.o q.mach.tags.owns.length aq.oc, .int .i64 q.mach.space, .slice Kq q.marks.length kq, .int .i64 q.hand], .slice Az zs.length cz] rfl (CUP.out zs Az cz _ (HME.out _ (by with_reducible repeat' (first | exact Chg.refl _ _ _ | exact hE1 | exact hE0 | refine Chg.alloc ?_ _ | refine Chg.drew ?_))) (by with_reducible repeat' (first | exact hfz.rd | refine Rd.alloc ?_ _)) hzl hzr) ?_; rintro r wf1 ⟨n, ok, vv, an, Kn, kn, rfl, hok, hfn, hb1⟩; refine ⟨_, rfl, ?_⟩; have hE1 : Chg g (g + 1) wc wf1 := Chg.trans (by with_reducible repeat' (first | exact Chg.refl _ _ _ | exact hE1 | exact hE0 | refine Chg.alloc ?_ _ | refine Chg.drew ?_)) ((Chg.of_ex hb1).mono' g (g + 1)); have hz1 := hE1.size; have hy1 := hb1.size; have hB1 := Blk.chg hB0 (((Chg.of_ex hb1).mono' g (g + 1))) (by omega)
   refine hK.out _ _ ?r1_hS9 (fun hHeld9 => ?_)
   case r1_hS9 => exact FKO.out _ hE1
   clear hK K hHeld8
   try simp only [Act.put, List.setIfInBounds_toArray, List.set_cons_zero, List.set_cons_succ]
   refine tk 4 ?_; refine tk 5 ?_; refine tk 6 ?_; refine tk 7 ?_
   refine wpAnyH_ready (rs := [9]) (by kernel_rfl) (by simp) ?_
   refine AllReadyH.cons (o := ?r1_o10) ?r1_ho10 (fun K hK => ?r1_b10) AllReadyH.nil
   case r1_ho10 => (conv => lhs; whnf; arg 1; whnf)
   case' r1_b10 => skip
   obtain ⟨hr0, hr1, hr2, hr3, hr4, hr5, hr6, hr7, hr8, hr9, hr10⟩ := hB1.c11; have hrf := hB1.frozen; have hrl := hB1.lt; go_simp
   refine hK.out _ _ ?r1_hS10 (fun hHeld10 => ?_)
   case r1_hS10 => exact FKO.out _ (by with_reducible repeat' (first | exact hE1 | exact hE0 | refine Chg.alloc ?_ _ | refine Chg.set ?_ (by omega) _))
   clear hK K hHeld9
   try simp only [Act.put, List.setIfInBounds_toArray, List.set_cons_zero, List.set_cons_succ]
   refine tk 10 ?_; refine tk 11 ?_
   refine wpAnyH_done (by kernel_rfl) ?_ _
   clear hHeld10
   have HQ1 : Hid (FrE wf1 w.heap.size n an Kn kn) := zq (FrE.mono hfn (by first | omega | (simp; omega)))
   have HQ2 : Hid (FrE wf1 w.heap.size q aq Kq kq) := zq (HME.out _ hE1)
   have HQ3 : Hid (Blk wf1 gM 37 [.slice aq.b q.mach.table.buckets.length aq.bc, .slice aq.f q.mach.table.frames.length aq.fc, .slice aq.l q.mach.cache.lines.length aq.lc, .int .i64 q.mach.cache.hand, .int .i64 q.mach.tags.count, .int .i64 q.mach.tags.next, .int .i64 q.mach.tags.round, .slice aq.o q.mach.tags.owns.length aq.oc, .int .i64 q.mach.space, .slice Kq q.marks.length kq, .int .i64 q.hand]) := zq (KM.out.chg hE1 (by omega))
   have HQ4 : Hid (Blk wf1 w.heap.size 37 [.slice none 0 0, .slice none 0 0, .slice none 0 0, .int .i64 0, .int .i64 0, .int .i64 0, .int .i64 0, .slice none 0 0, .int .i64 0, .slice none 0 0, .int .i64 0]) := zq (KR.out.chg hE1 (by omega))
   have HQ5 : Hid (Chg g (g + 1) w wf1) := zq (EX.out.trans hE1)
   have HQ7 : Hid (Rdr wf1 g p3) := zq (Rdr.ex (by with_reducible repeat' (first | exact hrz | refine Rdr.alloc ?_ _)) hb1)
   have HOK := zq hok
   have HQ6 := zq hB1
   have HRa := zq (HQ1.out.m.b.off HQ6.out (by decide))
   have HRb := zq (HQ1.out.m.f.off HQ6.out (by decide))
   have HRc := zq (HQ1.out.m.l.off HQ6.out (by decide))
   have HRd := zq (HQ1.out.m.o.off HQ6.out (by decide))
   have HRe := zq (HQ1.out.k.off HQ6.out (by decide))
   have HSa := zq (HQ2.out.m.b.off HQ6.out (by decide))
   have HSb := zq (HQ2.out.m.f.off HQ6.out (by decide))
   have HSc := zq (HQ2.out.m.l.off HQ6.out (by decide))
   have HSd := zq (HQ2.out.m.o.off HQ6.out (by decide))
   have HSe := zq (HQ2.out.k.off HQ6.out (by decide))
   clear hfn hok hrz
   go_wp2_with fail
   go_meet
   exact ⟨wc.heap.size, n, ok, an, Kn, kn, p3, rfl, rfl, HOK.out, Blk.put11 HQ6.out, ⟨⟨(zr HQ1.out.m.b HRa.out), (zr HQ1.out.m.f HRb.out), (zr HQ1.out.m.l HRc.out), (zr HQ1.out.m.o HRd.out)⟩, (zr HQ1.out.k HRe.out)⟩, (zf HQ3.out), ⟨⟨(zr HQ2.out.m.b HSa.out), (zr HQ2.out.m.f HSb.out), (zr HQ2.out.m.l HSc.out), (zr HQ2.out.m.o HSd.out)⟩, (zr HQ2.out.k HSe.out)⟩, Rdr.chg (lo := w.heap.size) (hi := wc.heap.size + 1) HQ7.out (by with_reducible repeat' (first | exact Chg.refl _ _ wf1 | refine Chg.alloc ?_ _ | refine Chg.set ?_ (by omega) _)) (by omega), by omega, (zc HQ5.out), (zf HQ4.out), by omega⟩
 case rest =>
  obtain ⟨gN, n, ok, an, Kn, kn, p3, rfl, rfl, hok, hkn, hfn, hkm, hfq, hrd, hpp, hex, hkr, hgN⟩ := hcut
  have KN := zq hkn
  clear KM EX KR HRD HEc HME FKO CPG CUP
  obtain ⟨wx, hwx⟩ : ∃ wx, wx = wc := ⟨_, rfl⟩
  subst hwx
  have KM := zq hkm; have HRD := zq hrd; have EX := zq hex; have KR := zq hkr
  have hMx := KM.out.lt
  clear hkn hkm hrd hex hkr
  cases ok
  ·have FE := zq hfq
   clear hfq hfn hok KN
   go_wp2_with fail
   refine name_calls ?_
   intro wA hwA
   have HA3 : Hid (Blk wA gM 37 [.slice aq.b q.mach.table.buckets.length aq.bc, .slice aq.f q.mach.table.frames.length aq.fc, .slice aq.l q.mach.cache.lines.length aq.lc, .int .i64 q.mach.cache.hand, .int .i64 q.mach.tags.count, .int .i64 q.mach.tags.next, .int .i64 q.mach.tags.round, .slice aq.o q.mach.tags.owns.length aq.oc, .int .i64 q.mach.space, .slice Kq q.marks.length kq, .int .i64 q.hand]) := zq (by rw [hwA]; exact KM.out)
   have HA1 : Hid (FrE wA w.heap.size q aq Kq kq) := zq (by rw [hwA]; exact FE.out)
   have HA4 : Hid (Blk wA w.heap.size 37 [.slice none 0 0, .slice none 0 0, .slice none 0 0, .int .i64 0, .int .i64 0, .int .i64 0, .int .i64 0, .slice none 0 0, .int .i64 0, .slice none 0 0, .int .i64 0]) := zq (by rw [hwA]; exact (zf KR.out))
   have HA5 : Hid (Chg g (g + 1) w wA) := zq (by rw [hwA]; exact (zc EX.out))
   have HA7 : Hid (Rdr wA g p3) := zq (by rw [hwA]; exact HRD.out)
   clear hwA KM FE HRD EX KR
   refine (pick_c g p3 3 _ HA7.out (by omega) (by omega)).mono ?_
   rintro r w6 ⟨z, rfl, hz, hr6, hg6⟩
   have hC6 : Chg g (g + 1) wA w6 := Chg.of_grown hg6 (fun b hb => by injection hb with hb; omega)
   have HB3 := zq (HA3.out.chg hC6 (by omega)); have HB1 := zq (HA1.out.chg1 hC6 (by omega)); have HB4 := zq (HA4.out.chg hC6 (by omega)); have HB5 := zq (HA5.out.trans hC6); have HB7 := zq hr6
   have hzA := HB5.out.size
   clear hC6 hg6 hr6 HA1 HA3 HA4 HA5 HA7
   obtain ⟨m0, m1, m2, m3, m4, m5, m6, m7, m8, m9, m10⟩ := HB3.out.c11
   have mz := HB3.out.frozen; have ml := HB3.out.lt
   have hMR : ¬ gM = w.heap.size := by omega
   have hMR2 : ¬ w.heap.size = gM := by omega
   by_cases hz0 : z = 0
   ·subst hz0
    go_wp2_with fail
    refine (clearS_c q aq Kq kq _ HQ.out HB1.out.has HB1.out.cap HB1.out.m.capx HB1.out.k.cap).mono ?_
    rintro r w7 ⟨a7, K7, k7, rfl, hf7, hb7⟩
    have HC3 := zq (HB3.out.ex hb7); have HC4 := zq (HB4.out.ex hb7); have HC5 := zq (HB5.out.trans ((Chg.of_ex hb7).mono' g (g + 1))); have HC7 := zq (HB7.out.ex hb7)
    have HC1 : Hid (FrE w7 w.heap.size (clearMem q) a7 K7 k7) := zq (hf7.mono (by omega))
    clear hf7 hb7 m0 m1 m2 m3 m4 m5 m6 m7 m8 m9 m10 mz ml HB1 HB3 HB4 HB5 HB7
    obtain ⟨m0, m1, m2, m3, m4, m5, m6, m7, m8, m9, m10⟩ := HC3.out.c11
    have mz := HC3.out.frozen; have ml := HC3.out.lt
    obtain ⟨r0, r1, r2, r3, r4, r5, r6, r7, r8, r9, r10⟩ := HC4.out.c11
    have rz := HC4.out.frozen; have rl := HC4.out.lt
    have HMa := zq (HC1.out.m.b.off HC3.out (by decide)); have HRa := zq (HC1.out.m.b.off HC4.out (by decide))
    have HMb := zq (HC1.out.m.f.off HC3.out (by decide)); have HRb := zq (HC1.out.m.f.off HC4.out (by decide))
    have HMc := zq (HC1.out.m.l.off HC3.out (by decide)); have HRc := zq (HC1.out.m.l.off HC4.out (by decide))
    have HMd := zq (HC1.out.m.o.off HC3.out (by decide)); have HRd := zq (HC1.out.m.o.off HC4.out (by decide))
    have HMe := zq (HC1.out.k.off HC3.out (by decide)); have HRe := zq (HC1.out.k.off HC4.out (by decide))
    obtain ⟨cq, hcq⟩ : ∃ cq, cq = clearMem q := ⟨_, rfl⟩
    have HCQ : Hid (MemOk cq) := zq (by rw [hcq]; exact HQ.out.clear)
    rw [← hcq] at HC1 ⊢
    clear hcq
    go_wp2
    exact bodyPost_ret (v := .agg #[.slice a7.b cq.mach.table.buckets.length a7.bc, .slice a7.f cq.mach.table.frames.length a7.fc, .slice a7.l cq.mach.cache.lines.length a7.lc, .int .i64 cq.mach.cache.hand, .int .i64 cq.mach.tags.count, .int .i64 cq.mach.tags.next, .int .i64 cq.mach.tags.round, .slice a7.o cq.mach.tags.owns.length a7.oc, .int .i64 cq.mach.space, .slice K7 cq.marks.length k7, .int .i64 cq.hand]) (by simp [results, Tryz.results18, go_sem, *]) rfl
     ⟨cq, a7, K7, k7, p3 + 1, rfl, HCQ.out, ⟨⟨(zt HC1.out.m.b HMa.out HRa.out), (zt HC1.out.m.f HMb.out HRb.out), (zt HC1.out.m.l HMc.out HRc.out), (zt HC1.out.m.o HMd.out HRd.out)⟩, (zt HC1.out.k HMe.out HRe.out)⟩, Rdr.chg (lo := w.heap.size) (hi := gM + 1) HC7.out (by with_reducible repeat' (first | exact Chg.refl _ _ w7 | refine Chg.alloc ?_ _ | refine Chg.set ?_ (by omega) _)) (by omega), by omega, Chg.grown (zc HC5.out)⟩
   ·have hz1 : (z == 0) = false := by simpa using hz0
    obtain ⟨r0, r1, r2, r3, r4, r5, r6, r7, r8, r9, r10⟩ := HB4.out.c11
    have rz := HB4.out.frozen; have rl := HB4.out.lt
    have HRa := zq (HB1.out.m.b.off HB4.out (by decide))
    have HRb := zq (HB1.out.m.f.off HB4.out (by decide))
    have HRc := zq (HB1.out.m.l.off HB4.out (by decide))
    have HRd := zq (HB1.out.m.o.off HB4.out (by decide))
    have HRe := zq (HB1.out.k.off HB4.out (by decide))
    go_wp2
    exact bodyPost_ret (v := .agg #[.slice aq.b q.mach.table.buckets.length aq.bc, .slice aq.f q.mach.table.frames.length aq.fc, .slice aq.l q.mach.cache.lines.length aq.lc, .int .i64 q.mach.cache.hand, .int .i64 q.mach.tags.count, .int .i64 q.mach.tags.next, .int .i64 q.mach.tags.round, .slice aq.o q.mach.tags.owns.length aq.oc, .int .i64 q.mach.space, .slice Kq q.marks.length kq, .int .i64 q.hand]) (by simp [results, Tryz.results18, go_sem, *]) rfl
     ⟨q, aq, Kq, kq, p3 + 1, rfl, HQ.out, ⟨⟨(zr HB1.out.m.b HRa.out), (zr HB1.out.m.f HRb.out), (zr HB1.out.m.l HRc.out), (zr HB1.out.m.o HRd.out)⟩, (zr HB1.out.k HRe.out)⟩, Rdr.chg (lo := w.heap.size) (hi := w.heap.size + 1) HB7.out (by with_reducible repeat' (first | exact Chg.refl _ _ w6 | refine Chg.alloc ?_ _ | refine Chg.set ?_ (by omega) _)) (by omega), by omega, Chg.grown (zc HB5.out)⟩
  ·have HQ := zq (hok rfl)
   have FE := zq hfn
   clear hfq hfn hok
   obtain ⟨m0, m1, m2, m3, m4, m5, m6, m7, m8, m9, m10⟩ := KM.out.c11
   have mz := KM.out.frozen; have ml := KM.out.lt
   obtain ⟨n0, n1, n2, n3, n4, n5, n6, n7, n8, n9, n10⟩ := KN.out.c11
   have nl := KN.out.lt
   have HMa := zq (FE.out.m.b.off KM.out (by decide)); have HMb := zq (FE.out.m.f.off KM.out (by decide)); have HMc := zq (FE.out.m.l.off KM.out (by decide)); have HMd := zq (FE.out.m.o.off KM.out (by decide)); have HMe := zq (FE.out.k.off KM.out (by decide))
   go_wp2_with fail
   refine name_calls ?_
   intro wA hwA
   have HA3 : Hid (Blk wA gM 37 [.slice an.b n.mach.table.buckets.length an.bc, .slice an.f n.mach.table.frames.length an.fc, .slice an.l n.mach.cache.lines.length an.lc, .int .i64 n.mach.cache.hand, .int .i64 n.mach.tags.count, .int .i64 n.mach.tags.next, .int .i64 n.mach.tags.round, .slice an.o n.mach.tags.owns.length an.oc, .int .i64 n.mach.space, .slice Kn n.marks.length kn, .int .i64 n.hand]) := zq (by rw [hwA]; exact Blk.put11 KM.out)
   have HA1 : Hid (FrE wA w.heap.size n an Kn kn) := zq (by rw [hwA]; exact ⟨⟨(zr FE.out.m.b HMa.out), (zr FE.out.m.f HMb.out), (zr FE.out.m.l HMc.out), (zr FE.out.m.o HMd.out)⟩, (zr FE.out.k HMe.out)⟩)
   have HA4 : Hid (Blk wA w.heap.size 37 [.slice none 0 0, .slice none 0 0, .slice none 0 0, .int .i64 0, .int .i64 0, .int .i64 0, .int .i64 0, .slice none 0 0, .int .i64 0, .slice none 0 0, .int .i64 0]) := zq (by rw [hwA]; exact (zf KR.out))
   have HA5 : Hid (Chg g (g + 1) w wA) := zq (by rw [hwA]; exact (zc EX.out))
   have HA7 : Hid (Rdr wA g p3) := zq (by rw [hwA]; exact Rdr.chg (lo := gM) (hi := gM + 1) HRD.out (by with_reducible repeat' (first | exact Chg.refl _ _ wx | refine Chg.alloc ?_ _ | refine Chg.set ?_ (by omega) _)) (by omega))
   clear hwA KM FE HRD EX KR HMa HMb HMc HMd HMe m0 m1 m2 m3 m4 m5 m6 m7 m8 m9 m10 mz ml n0 n1 n2 n3 n4 n5 n6 n7 n8 n9 n10 nl KN
   refine (pick_c g p3 3 _ HA7.out (by omega) (by omega)).mono ?_
   rintro r w6 ⟨z, rfl, hz, hr6, hg6⟩
   have hC6 : Chg g (g + 1) wA w6 := Chg.of_grown hg6 (fun b hb => by injection hb with hb; omega)
   have HB3 := zq (HA3.out.chg hC6 (by omega)); have HB1 := zq (HA1.out.chg1 hC6 (by omega)); have HB4 := zq (HA4.out.chg hC6 (by omega)); have HB5 := zq (HA5.out.trans hC6); have HB7 := zq hr6
   have hzA := HB5.out.size
   clear hC6 hg6 hr6 HA1 HA3 HA4 HA5 HA7
   obtain ⟨m0, m1, m2, m3, m4, m5, m6, m7, m8, m9, m10⟩ := HB3.out.c11
   have mz := HB3.out.frozen; have ml := HB3.out.lt
   have hMR : ¬ gM = w.heap.size := by omega
   have hMR2 : ¬ w.heap.size = gM := by omega
   by_cases hz0 : z = 0
   ·subst hz0
    go_wp2_with fail
    refine (clearS_c n an Kn kn _ HQ.out HB1.out.has HB1.out.cap HB1.out.m.capx HB1.out.k.cap).mono ?_
    rintro r w7 ⟨a7, K7, k7, rfl, hf7, hb7⟩
    have HC3 := zq (HB3.out.ex hb7); have HC4 := zq (HB4.out.ex hb7); have HC5 := zq (HB5.out.trans ((Chg.of_ex hb7).mono' g (g + 1))); have HC7 := zq (HB7.out.ex hb7)
    have HC1 : Hid (FrE w7 w.heap.size (clearMem n) a7 K7 k7) := zq (hf7.mono (by omega))
    clear hf7 hb7 m0 m1 m2 m3 m4 m5 m6 m7 m8 m9 m10 mz ml HB1 HB3 HB4 HB5 HB7
    obtain ⟨m0, m1, m2, m3, m4, m5, m6, m7, m8, m9, m10⟩ := HC3.out.c11
    have mz := HC3.out.frozen; have ml := HC3.out.lt
    obtain ⟨r0, r1, r2, r3, r4, r5, r6, r7, r8, r9, r10⟩ := HC4.out.c11
    have rz := HC4.out.frozen; have rl := HC4.out.lt
    have HMa := zq (HC1.out.m.b.off HC3.out (by decide)); have HRa := zq (HC1.out.m.b.off HC4.out (by decide))
    have HMb := zq (HC1.out.m.f.off HC3.out (by decide)); have HRb := zq (HC1.out.m.f.off HC4.out (by decide))
    have HMc := zq (HC1.out.m.l.off HC3.out (by decide)); have HRc := zq (HC1.out.m.l.off HC4.out (by decide))
    have HMd := zq (HC1.out.m.o.off HC3.out (by decide)); have HRd := zq (HC1.out.m.o.off HC4.out (by decide))
    have HMe := zq (HC1.out.k.off HC3.out (by decide)); have HRe := zq (HC1.out.k.off HC4.out (by decide))
    obtain ⟨cq, hcq⟩ : ∃ cq, cq = clearMem n := ⟨_, rfl⟩
    have HCQ : Hid (MemOk cq) := zq (by rw [hcq]; exact HQ.out.clear)
    rw [← hcq] at HC1 ⊢
    clear hcq
    go_wp2
    exact bodyPost_ret (v := .agg #[.slice a7.b cq.mach.table.buckets.length a7.bc, .slice a7.f cq.mach.table.frames.length a7.fc, .slice a7.l cq.mach.cache.lines.length a7.lc, .int .i64 cq.mach.cache.hand, .int .i64 cq.mach.tags.count, .int .i64 cq.mach.tags.next, .int .i64 cq.mach.tags.round, .slice a7.o cq.mach.tags.owns.length a7.oc, .int .i64 cq.mach.space, .slice K7 cq.marks.length k7, .int .i64 cq.hand]) (by simp [results, Tryz.results18, go_sem, *]) rfl
     ⟨cq, a7, K7, k7, p3 + 1, rfl, HCQ.out, ⟨⟨(zt HC1.out.m.b HMa.out HRa.out), (zt HC1.out.m.f HMb.out HRb.out), (zt HC1.out.m.l HMc.out HRc.out), (zt HC1.out.m.o HMd.out HRd.out)⟩, (zt HC1.out.k HMe.out HRe.out)⟩, Rdr.chg (lo := w.heap.size) (hi := gM + 1) HC7.out (by with_reducible repeat' (first | exact Chg.refl _ _ w7 | refine Chg.alloc ?_ _ | refine Chg.set ?_ (by omega) _)) (by omega), by omega, Chg.grown (zc HC5.out)⟩
   ·have hz1 : (z == 0) = false := by simpa using hz0
    obtain ⟨r0, r1, r2, r3, r4, r5, r6, r7, r8, r9, r10⟩ := HB4.out.c11
    have rz := HB4.out.frozen; have rl := HB4.out.lt
    have HRa := zq (HB1.out.m.b.off HB4.out (by decide))
    have HRb := zq (HB1.out.m.f.off HB4.out (by decide))
    have HRc := zq (HB1.out.m.l.off HB4.out (by decide))
    have HRd := zq (HB1.out.m.o.off HB4.out (by decide))
    have HRe := zq (HB1.out.k.off HB4.out (by decide))
    go_wp2
    exact bodyPost_ret (v := .agg #[.slice an.b n.mach.table.buckets.length an.bc, .slice an.f n.mach.table.frames.length an.fc, .slice an.l n.mach.cache.lines.length an.lc, .int .i64 n.mach.cache.hand, .int .i64 n.mach.tags.count, .int .i64 n.mach.tags.next, .int .i64 n.mach.tags.round, .slice an.o n.mach.tags.owns.length an.oc, .int .i64 n.mach.space, .slice Kn n.marks.length kn, .int .i64 n.hand]) (by simp [results, Tryz.results18, go_sem, *]) rfl
     ⟨n, an, Kn, kn, p3 + 1, rfl, HQ.out, ⟨⟨(zr HB1.out.m.b HRa.out), (zr HB1.out.m.f HRb.out), (zr HB1.out.m.l HRc.out), (zr HB1.out.m.o HRd.out)⟩, (zr HB1.out.k HRe.out)⟩, Rdr.chg (lo := w.heap.size) (hi := w.heap.size + 1) HB7.out (by with_reducible repeat' (first | exact Chg.refl _ _ w6 | refine Chg.alloc ?_ _ | refine Chg.set ?_ (by omega) _)) (by omega), by omega, Chg.grown (zc HB5.out)⟩

structure FewP (m : MemD) (k : Nat) : Prop where
 b : FewB m.mach k
 pos : 0 < m.marks.length
 len : m.marks.length ≤ k
theorem FewB.mono {m : MachD} {k k' : Nat} (h : FewB m k) (hk : k ≤ k') : FewB m k' := ⟨Nat.le_trans h.b hk, Nat.le_trans h.f hk, h.l, Nat.le_trans h.o hk, h.z⟩
theorem FewP.fewE {m : MemD} {k : Nat} (h : FewP m k) (hk : k ≤ 1000) : FewE m := ⟨h.b.few hk, by have := h.len; omega⟩
theorem MemOk.fewP {m : MemD} (h : MemOk m) : FewP m 16 := ⟨h.1.fewB, by have := h.lens; omega, by have := h.lens; omega⟩
theorem one_bool (w : World) (z : Bool) : Rd (w.alloc (.cells #[.bool z] 4)) (some ⟨w.heap.size, 0, none⟩) [z] := Bk.rd (Bk.new w 4 [z])
theorem Fr.past {α : Type} [Rec α] {E : TypeId} {w w' : World} {B c g : Nat} {A : Option Addr} {xs : List α} (h : Fr E w B A c xs) (k : w.grownBy w' (some g)) (ho : ∀ b, rowOf A c = some b → b ≠ g) : Fr E w' B A c xs :=
 h.grown k (fun b e => by
  injection e with e
  subst e
  by_cases hc : c = 0
  ·exact .inl hc
  ·refine .inr (fun e2 => ?_)
   exact ho g (by rw [e2]; exact rowOf_some (by omega)) rfl)

set_option maxHeartbeats 16000000 in
theorem l7Wrong_c (g p lo k : Nat) (m : MemD) (a : MA) (K : Option Addr) (kc : Nat) (w : World) (h : Rdr w g p) (hp : p ≤ 600000) (hm : FewP m k) (hk : k ≤ 800) (hx : FrE w lo m a K kc) :
  Calls Tryz.prog 19 #[.pointer (some ⟨g, 0, none⟩), .agg #[.slice a.b m.mach.table.buckets.length a.bc, .slice a.f m.mach.table.frames.length a.fc, .slice a.l m.mach.cache.lines.length a.lc, .int .i64 m.mach.cache.hand, .int .i64 m.mach.tags.count, .int .i64 m.mach.tags.next, .int .i64 m.mach.tags.round, .slice a.o m.mach.tags.owns.length a.oc, .int .i64 m.mach.space, .slice K m.marks.length kc, .int .i64 m.hand]] w (SomeMem g p w.heap.size 200 (fun q => FewP q (k + 6)) w) := by
 obtain ⟨i0, hi, hz0, hz1, hz2⟩ := info_parts infoMBool
 have lg := h.lt
 have HR0 := zq h
 have HM := zq hm
 have C1 := zq (fun w' (e : Ex w w') => l7Copy_c m a K kc w' (hx.has.ex e) (hm.fewE (by omega)) hx.cap hx.m.capx hx.k.cap)
 unfold MemIs at C1
 have n1 := hm.pos
 have n2 := hm.len
 clear h hx hm
 go_enter Tryz.func19, Tryz.ntmps19
 go_wp2_with fail
 refine name_calls ?_; intro v1 hv1
 have X1 : Hid (Chg (0) (0) w v1) := zx hv1
 have t1 := X1.out.size
 have Ev1 : Hid (Chg g (g + 1) w v1) := zq ((Chg.refl g (g + 1) w).step X1.out (by omega))
 replace HR0 := zq (HR0.out.chg X1.out (by omega))
 have KX : Hid (Blk v1 (w.heap.size) 37 [.slice a.b m.mach.table.buckets.length a.bc, .slice a.f m.mach.table.frames.length a.fc, .slice a.l m.mach.cache.lines.length a.lc, .int .i64 m.mach.cache.hand, .int .i64 m.mach.tags.count, .int .i64 m.mach.tags.next, .int .i64 m.mach.tags.round, .slice a.o m.mach.tags.owns.length a.oc, .int .i64 m.mach.space, .slice K m.marks.length kc, .int .i64 m.hand]) := zk hv1
 have lX : w.heap.size < v1.heap.size := KX.out.lt
 have KR : Hid (Blk v1 (w.heap.size + 1) 37 [.slice none 0 0, .slice none 0 0, .slice none 0 0, .int .i64 0, .int .i64 0, .int .i64 0, .int .i64 0, .slice none 0 0, .int .i64 0, .slice none 0 0, .int .i64 0]) := zk hv1
 have lR : w.heap.size + 1 < v1.heap.size := KR.out.lt
 clear hv1
 refine (C1.out _ X1.out.ex_).mono ?_; rintro r w1 ⟨a1, K1, k1, rfl, ⟨⟨hfa, hfb, hfc, hfd⟩, hfe⟩, hb1⟩
 have Y1 := zq (Chg.of_ex hb1)
 have s1 := Y1.out.size
 have Ew1 : Hid (Chg g (g + 1) w w1) := zq (Ev1.out.step Y1.out (by omega))
 clear hb1
 replace KX := zq (KX.out.chg Y1.out (by omega))
 replace KR := zq (KR.out.chg Y1.out (by omega))
 replace HR0 := zq (HR0.out.chg Y1.out (by omega))
 have HFA := zq hfa; clear hfa
 have WHFA := zq HFA.out.row
 have HFB := zq hfb; clear hfb
 have WHFB := zq HFB.out.row
 have HFC := zq hfc; clear hfc
 have WHFC := zq HFC.out.row
 have HFD := zq hfd; clear hfd
 have WHFD := zq HFD.out.row
 have HFE := zq hfe; clear hfe
 have WHFE := zq HFE.out.row
 obtain ⟨qX0, qX1, qX2, qX3, qX4, qX5, qX6, qX7, qX8, qX9, qX10⟩ := KX.out.c11
 have jX := KX.out.lt
 obtain ⟨qR0, qR1, qR2, qR3, qR4, qR5, qR6, qR7, qR8, qR9, qR10⟩ := KR.out.c11
 have jR := KR.out.lt
 have zR := KR.out.frozen
 clear qX0 qX1 qX2 qX3 qX4 qX5 qX6 qX7 qX8 qX9 qX10 jX
 clear KX
 go_wp2_with fail
 refine name_calls ?_; intro v2 hv2
 have X2 : Hid (Chg (0) (0) w1 v2) := zx hv2
 have t2 := X2.out.size
 have Ev2 : Hid (Chg g (g + 1) w v2) := zq (Ew1.out.step X2.out (by omega))
 clear qR0 qR1 qR2 qR3 qR4 qR5 qR6 qR7 qR8 qR9 qR10 jR zR
 replace KR := zq (KR.out.chg X2.out (by omega))
 replace HFA := zq (HFA.out.chg X2.out WHFA.out (by omega))
 replace HFB := zq (HFB.out.chg X2.out WHFB.out (by omega))
 replace HFC := zq (HFC.out.chg X2.out WHFC.out (by omega))
 replace HFD := zq (HFD.out.chg X2.out WHFD.out (by omega))
 replace HFE := zq (HFE.out.chg X2.out WHFE.out (by omega))
 replace HR0 := zq (HR0.out.chg X2.out (by omega))
 have KO : Hid (Blk v2 (w1.heap.size) 37 [.slice a1.b m.mach.table.buckets.length a1.bc, .slice a1.f m.mach.table.frames.length a1.fc, .slice a1.l m.mach.cache.lines.length a1.lc, .int .i64 m.mach.cache.hand, .int .i64 m.mach.tags.count, .int .i64 m.mach.tags.next, .int .i64 m.mach.tags.round, .slice a1.o m.mach.tags.owns.length a1.oc, .int .i64 m.mach.space, .slice K1 m.marks.length k1, .int .i64 m.hand]) := zk hv2
 have lO : w1.heap.size < v2.heap.size := KO.out.lt
 clear hv2
 refine (pick_c g p 20 _ HR0.out (by omega) (by omega)).mono ?_; rintro r w2 ⟨z2, rfl, hh2, hrd2, hb2⟩
 have Y2 : Hid (Chg (g) (g + 1) v2 w2) := zq (Chg.of_grown hb2 (fun b hb => by injection hb with hb; omega))
 have s2 := Y2.out.size
 have Ew2 : Hid (Chg g (g + 1) w w2) := zq (Ev2.out.step Y2.out (by omega))
 clear hb2
 replace KR := zq (KR.out.chg Y2.out (by omega))
 replace KO := zq (KO.out.chg Y2.out (by omega))
 replace HFA := zq (HFA.out.chg Y2.out WHFA.out (by omega))
 replace HFB := zq (HFB.out.chg Y2.out WHFB.out (by omega))
 replace HFC := zq (HFC.out.chg Y2.out WHFC.out (by omega))
 replace HFD := zq (HFD.out.chg Y2.out WHFD.out (by omega))
 replace HFE := zq (HFE.out.chg Y2.out WHFE.out (by omega))
 clear HR0
 have HRD2 := zq hrd2; clear hrd2
 have HH2 := zq hh2; clear hh2
 obtain ⟨qR0, qR1, qR2, qR3, qR4, qR5, qR6, qR7, qR8, qR9, qR10⟩ := KR.out.c11
 have jR := KR.out.lt
 have zR := KR.out.frozen
 obtain ⟨qO0, qO1, qO2, qO3, qO4, qO5, qO6, qO7, qO8, qO9, qO10⟩ := KO.out.c11
 have jO := KO.out.lt
 have zO := KO.out.frozen
 have hRO : ¬ w.heap.size + 1 = w1.heap.size := by omega
 have hRO' : ¬ w1.heap.size = w.heap.size + 1 := by omega
 by_cases hz : z2 = 0
 ·have hb0 : (z2 == 0) = true := by simp [hz]
  clear hz
  go_wp2_with fail
  refine name_calls ?_; intro v3 hv3
  have X3 : Hid (Chg (0) (0) w2 v3) := zx hv3
  have t3 := X3.out.size
  have Ev3 : Hid (Chg g (g + 1) w v3) := zq (Ew2.out.step X3.out (by omega))
  clear qR0 qR1 qR2 qR3 qR4 qR5 qR6 qR7 qR8 qR9 qR10 jR zR
  clear qO0 qO1 qO2 qO3 qO4 qO5 qO6 qO7 qO8 qO9 qO10 jO zO
  replace KR := zq (KR.out.chg X3.out (by omega))
  replace KO := zq (KO.out.chg X3.out (by omega))
  replace HFA := zq (HFA.out.chg X3.out WHFA.out (by omega))
  replace HFB := zq (HFB.out.chg X3.out WHFB.out (by omega))
  replace HFC := zq (HFC.out.chg X3.out WHFC.out (by omega))
  replace HFD := zq (HFD.out.chg X3.out WHFD.out (by omega))
  replace HFE := zq (HFE.out.chg X3.out WHFE.out (by omega))
  replace HRD2 := zq (HRD2.out.chg X3.out (by omega))
  have L3 : Hid (Rd v3 (some ⟨w2.heap.size, 0, none⟩) ([-1, 16, 0] : List Int)) := zq (by rw [hv3]; repeat' (first | exact Rd.lits _ _ _ | exact Rd.lits_at _ _ _ (by simp) | with_reducible refine Rd.alloc ?_ _))
  clear hv3
  refine (num_c g (p + 1) _ 0 _ [-1, 16, 0] _ HRD2.out L3.out (by simp) (by simp) (by omega) (by omega)).mono ?_; rintro r w3 ⟨f3, rfl, hhf3, hrd3, hb3⟩
  have Y3 : Hid (Chg (g) (g + 1) v3 w3) := zq (Chg.of_grown hb3 (fun b hb => by injection hb with hb; omega))
  have s3 := Y3.out.size
  have Ew3 : Hid (Chg g (g + 1) w w3) := zq (Ev3.out.step Y3.out (by omega))
  clear hb3
  replace KR := zq (KR.out.chg Y3.out (by omega))
  replace KO := zq (KO.out.chg Y3.out (by omega))
  replace HFA := zq (HFA.out.chg Y3.out WHFA.out (by omega))
  replace HFB := zq (HFB.out.chg Y3.out WHFB.out (by omega))
  replace HFC := zq (HFC.out.chg Y3.out WHFC.out (by omega))
  replace HFD := zq (HFD.out.chg Y3.out WHFD.out (by omega))
  replace HFE := zq (HFE.out.chg Y3.out WHFE.out (by omega))
  clear HRD2
  have HRD3 := zq hrd3; clear hrd3
  have HHF3 := zq hhf3; clear hhf3
  obtain ⟨qR0, qR1, qR2, qR3, qR4, qR5, qR6, qR7, qR8, qR9, qR10⟩ := KR.out.c11
  have jR := KR.out.lt
  have zR := KR.out.frozen
  obtain ⟨qO0, qO1, qO2, qO3, qO4, qO5, qO6, qO7, qO8, qO9, qO10⟩ := KO.out.c11
  have jO := KO.out.lt
  have zO := KO.out.frozen
  go_wp2
  exact bodyPost_ret (v := .agg #[.slice a1.b (⟨m.mach, m.marks, f3⟩ : MemD).mach.table.buckets.length a1.bc, .slice a1.f (⟨m.mach, m.marks, f3⟩ : MemD).mach.table.frames.length a1.fc, .slice a1.l (⟨m.mach, m.marks, f3⟩ : MemD).mach.cache.lines.length a1.lc, .int .i64 (⟨m.mach, m.marks, f3⟩ : MemD).mach.cache.hand, .int .i64 (⟨m.mach, m.marks, f3⟩ : MemD).mach.tags.count, .int .i64 (⟨m.mach, m.marks, f3⟩ : MemD).mach.tags.next, .int .i64 (⟨m.mach, m.marks, f3⟩ : MemD).mach.tags.round, .slice a1.o (⟨m.mach, m.marks, f3⟩ : MemD).mach.tags.owns.length a1.oc, .int .i64 (⟨m.mach, m.marks, f3⟩ : MemD).mach.space, .slice K1 (⟨m.mach, m.marks, f3⟩ : MemD).marks.length k1, .int .i64 (⟨m.mach, m.marks, f3⟩ : MemD).hand]) (by simp [results, Tryz.results19, go_sem, *]) rfl
   ⟨⟨m.mach, m.marks, f3⟩, a1, K1, k1, p + 1 + 1, rfl, ⟨HM.out.b.mono (by omega), HM.out.pos, Nat.le_trans HM.out.len (by omega)⟩, ⟨⟨(Fr.mono (zp HFA.out WHFA.out) (by omega)), (Fr.mono (zp HFB.out WHFB.out) (by omega)), (Fr.mono (zp HFC.out WHFC.out) (by omega)), (Fr.mono (zp HFD.out WHFD.out) (by omega))⟩, (Fr.mono (zp HFE.out WHFE.out) (by omega))⟩, Rdr.chg (lo := w.heap.size + 1) (hi := w1.heap.size + 1) HRD3.out (by with_reducible repeat' (first | exact Chg.refl _ _ w3 | refine Chg.alloc ?_ _ | refine Chg.drew ?_ | refine Chg.set ?_ (by omega) _)) (by omega), by omega, Chg.grown (zc Ew3.out)⟩
 have hb0 : (z2 == 0) = false := by simp [hz]
 clear hz
 by_cases hz : z2 = 1
 ·have hb1 : (z2 == 1) = true := by simp [hz]
  clear hz
  obtain ⟨gK, rs, rfl, hBk, hbk, hrs⟩ := HFE.out.open_ (k := 0) n1
  have hk1p : 0 < k1 := by have := HFE.out.le; omega
  have HKa := zq (HFA.out.off hbk (by decide)); have HKb := zq (HFB.out.off hbk (by decide)); have HKc := zq (HFC.out.off hbk (by decide)); have HKd := zq (HFD.out.off hbk (by decide))
  have hKO : ¬ w1.heap.size = gK := fun e => (HFE.out.off KO.out (by decide)) gK (rowOf_some hk1p) e.symm
  have hKR : ¬ w.heap.size + 1 = gK := fun e => (HFE.out.off KR.out (by decide)) gK (rowOf_some hk1p) e.symm
  have HFW : Hid (Fr 4 w2 w.heap.size (some ⟨gK, 0, none⟩) k1 m.marks) := zq (HFE.out.mono (by omega))
  have h63 : m.marks.length + 1 ≤ maxLen := by simp [maxLen]; omega
  have hby : (m.marks.length + 1) * 1 ≤ 140737488355328 := by omega
  clear hbk hrs HFE
  go_wp2_with (at_builtin; refine wpList_append_fr (α := Bool) rfl _ _ 35 rfl 4 i0 _ 1 w.heap.size Tryz.underlying35 hi hz0 hz1 hz2 rfl _ _ _ m.marks rfl rfl (HFW.out.alloc _) _ 1 1 [true] rfl rfl (one_bool _ _) h63 hby (by simp <;> omega) ?_)
  intro A6 c6 w6 ha
  have hg := ha.grown
  rw [rowOf_some hk1p] at hg
  have hcg : Chg gK (gK + 1) (w2.alloc (.cells #[.bool true] 4)) w6 := Chg.of_grown hg (fun b hb => by injection hb with hb; omega)
  have HM6 : Hid (Fr 4 w6 w.heap.size A6 c6 (m.marks ++ [true])) := zq ha.fr
  have KO6 := zq ((KO.out.alloc (.cells #[.bool true] 4)).grown hg (fun e => by injection e with e; exact hKO e))
  have KR6 := zq ((KR.out.alloc (.cells #[.bool true] 4)).grown hg (fun e => by injection e with e; exact hKR e))
  have HA6 := zq (((HFA.out.mono (B' := w.heap.size) (by omega)).alloc (.cells #[.bool true] 4)).past hg HKa.out)
  have HB6 := zq (((HFB.out.mono (B' := w.heap.size) (by omega)).alloc (.cells #[.bool true] 4)).past hg HKb.out)
  have HC6 := zq (((HFC.out.mono (B' := w.heap.size) (by omega)).alloc (.cells #[.bool true] 4)).past hg HKc.out)
  have HD6 := zq (((HFD.out.mono (B' := w.heap.size) (by omega)).alloc (.cells #[.bool true] 4)).past hg HKd.out)
  have HR6 : Hid (Rdr w6 g (p + 1)) := zq ((HRD2.out.alloc _).chg hcg (.inl (by omega)))
  have EX6 : Hid (Chg g (g + 1) w w6) := zq ((Ew2.out.alloc _).step hcg (.inr (.inl (by omega))))
  clear ha hg hcg HFW HFA HFB HFC HFD WHFA WHFB WHFC WHFD WHFE HKa HKb HKc HKd qO0 qO1 qO2 qO3 qO4 qO5 qO6 qO7 qO8 qO9 qO10 qR0 qR1 qR2 qR3 qR4 qR5 qR6 qR7 qR8 qR9 qR10 zO zR
  obtain ⟨o0, o1, o2, o3, o4, o5, o6, o7, o8, o9, o10⟩ := KO6.out.c11
  have oz := KO6.out.frozen; have ol := KO6.out.lt
  obtain ⟨r0, r1, r2, r3, r4, r5, r6, r7, r8, r9, r10⟩ := KR6.out.c11
  have rz := KR6.out.frozen; have rl := KR6.out.lt
  have HOa := zq (HA6.out.off KO6.out (by decide)); have HOb := zq (HB6.out.off KO6.out (by decide)); have HOc := zq (HC6.out.off KO6.out (by decide)); have HOd := zq (HD6.out.off KO6.out (by decide)); have HOe := zq (HM6.out.off KO6.out (by decide))
  have HPa := zq (HA6.out.off KR6.out (by decide)); have HPb := zq (HB6.out.off KR6.out (by decide)); have HPc := zq (HC6.out.off KR6.out (by decide)); have HPd := zq (HD6.out.off KR6.out (by decide)); have HPe := zq (HM6.out.off KR6.out (by decide))
  have hL : (m.marks ++ [true]).length = m.marks.length + 1 := by simp
  have HLL := zq hL
  clear hL
  go_wp2
  exact bodyPost_ret (v := .agg #[.slice a1.b m.mach.table.buckets.length a1.bc, .slice a1.f m.mach.table.frames.length a1.fc, .slice a1.l m.mach.cache.lines.length a1.lc, .int .i64 m.mach.cache.hand, .int .i64 m.mach.tags.count, .int .i64 m.mach.tags.next, .int .i64 m.mach.tags.round, .slice a1.o m.mach.tags.owns.length a1.oc, .int .i64 m.mach.space, .slice A6 (m.marks.length + 1) c6, .int .i64 m.hand]) (by simp [results, Tryz.results19, go_sem, *]) rfl
   ⟨⟨m.mach, m.marks ++ [true], m.hand⟩, a1, A6, c6, p + 1, by rw [HLL.out], ⟨HM.out.b.mono (by omega), by show 0 < (m.marks ++ [true]).length; rw [HLL.out]; omega, by show (m.marks ++ [true]).length ≤ _; rw [HLL.out]; have := HM.out.len; omega⟩, ⟨⟨(by with_reducible repeat' (first | exact HA6.out | refine Fr.alloc ?_ _ | refine Fr.drew ?_ | refine Fr.put ?_ HOa.out _ | refine Fr.put ?_ HPa.out _)), (by with_reducible repeat' (first | exact HB6.out | refine Fr.alloc ?_ _ | refine Fr.drew ?_ | refine Fr.put ?_ HOb.out _ | refine Fr.put ?_ HPb.out _)), (by with_reducible repeat' (first | exact HC6.out | refine Fr.alloc ?_ _ | refine Fr.drew ?_ | refine Fr.put ?_ HOc.out _ | refine Fr.put ?_ HPc.out _)), (by with_reducible repeat' (first | exact HD6.out | refine Fr.alloc ?_ _ | refine Fr.drew ?_ | refine Fr.put ?_ HOd.out _ | refine Fr.put ?_ HPd.out _))⟩, (by with_reducible repeat' (first | exact HM6.out | refine Fr.alloc ?_ _ | refine Fr.drew ?_ | refine Fr.put ?_ HOe.out _ | refine Fr.put ?_ HPe.out _))⟩, Rdr.chg (lo := w.heap.size + 1) (hi := w1.heap.size + 1) HR6.out (by with_reducible repeat' (first | exact Chg.refl _ _ w6 | refine Chg.alloc ?_ _ | refine Chg.drew ?_ | refine Chg.set ?_ (by omega) _)) (by omega), by omega, Chg.grown (zc EX6.out)⟩
 have hb1 : (z2 == 1) = false := by simp [hz]
 clear hz
 by_cases hz : z2 = 2
 ·have hb2 : (z2 == 2) = true := by simp [hz]
  clear hz
  go_wp2_with fail
  refine name_calls ?_; intro v3 hv3
  have X3 : Hid (Chg (0) (0) w2 v3) := zx hv3
  have t3 := X3.out.size
  have Ev3 : Hid (Chg g (g + 1) w v3) := zq (Ew2.out.step X3.out (by omega))
  clear qR0 qR1 qR2 qR3 qR4 qR5 qR6 qR7 qR8 qR9 qR10 jR zR
  clear qO0 qO1 qO2 qO3 qO4 qO5 qO6 qO7 qO8 qO9 qO10 jO zO
  replace KR := zq (KR.out.chg X3.out (by omega))
  replace KO := zq (KO.out.chg X3.out (by omega))
  replace HFA := zq (HFA.out.chg X3.out WHFA.out (by omega))
  replace HFB := zq (HFB.out.chg X3.out WHFB.out (by omega))
  replace HFC := zq (HFC.out.chg X3.out WHFC.out (by omega))
  replace HFD := zq (HFD.out.chg X3.out WHFD.out (by omega))
  replace HFE := zq (HFE.out.chg X3.out WHFE.out (by omega))
  replace HRD2 := zq (HRD2.out.chg X3.out (by omega))
  clear hv3
  refine (l6Wrong_c g (p + 1) _ k m.mach a1 _ HRD2.out (by omega) HM.out.b (by omega) ⟨HFA.out, HFB.out, HFC.out, HFD.out⟩).mono ?_; rintro r w3 ⟨t3, a3, p3, rfl, hh3, ⟨hfi, hfj, hfk, hfl⟩, hrd3, hp3, hb3⟩
  have Y3 : Hid (Chg (g) (g + 1) v3 w3) := zq (Chg.of_grown hb3 (fun b hb => by injection hb with hb; omega))
  have s3 := Y3.out.size
  have Ew3 : Hid (Chg g (g + 1) w w3) := zq (Ev3.out.step Y3.out (by omega))
  clear hb3
  replace KR := zq (KR.out.chg Y3.out (by omega))
  replace KO := zq (KO.out.chg Y3.out (by omega))
  replace HFA := zq (HFA.out.chg Y3.out WHFA.out (by omega))
  replace HFB := zq (HFB.out.chg Y3.out WHFB.out (by omega))
  replace HFC := zq (HFC.out.chg Y3.out WHFC.out (by omega))
  replace HFD := zq (HFD.out.chg Y3.out WHFD.out (by omega))
  replace HFE := zq (HFE.out.chg Y3.out WHFE.out (by omega))
  clear HRD2
  have HFI := zq hfi; clear hfi
  have WHFI := zq HFI.out.row
  have HFJ := zq hfj; clear hfj
  have WHFJ := zq HFJ.out.row
  have HFK := zq hfk; clear hfk
  have WHFK := zq HFK.out.row
  have HFL := zq hfl; clear hfl
  have WHFL := zq HFL.out.row
  have HRD3 := zq hrd3; clear hrd3
  have HH3 := zq hh3; clear hh3
  obtain ⟨qR0, qR1, qR2, qR3, qR4, qR5, qR6, qR7, qR8, qR9, qR10⟩ := KR.out.c11
  have jR := KR.out.lt
  have zR := KR.out.frozen
  obtain ⟨qO0, qO1, qO2, qO3, qO4, qO5, qO6, qO7, qO8, qO9, qO10⟩ := KO.out.c11
  have jO := KO.out.lt
  have zO := KO.out.frozen
  go_wp2_with fail
  refine name_calls ?_; intro v4 hv4
  have X4 : Hid (Chg (0) (0) w3 v4) := zx hv4
  have t4 := X4.out.size
  have Ev4 : Hid (Chg g (g + 1) w v4) := zq (Ew3.out.step X4.out (by omega))
  clear qR0 qR1 qR2 qR3 qR4 qR5 qR6 qR7 qR8 qR9 qR10 jR zR
  clear qO0 qO1 qO2 qO3 qO4 qO5 qO6 qO7 qO8 qO9 qO10 jO zO
  replace KR := zq (KR.out.chg X4.out (by omega))
  replace KO := zq (KO.out.chg X4.out (by omega))
  replace HFA := zq (HFA.out.chg X4.out WHFA.out (by omega))
  replace HFB := zq (HFB.out.chg X4.out WHFB.out (by omega))
  replace HFC := zq (HFC.out.chg X4.out WHFC.out (by omega))
  replace HFD := zq (HFD.out.chg X4.out WHFD.out (by omega))
  replace HFE := zq (HFE.out.chg X4.out WHFE.out (by omega))
  replace HFI := zq (HFI.out.chg X4.out WHFI.out (by omega))
  replace HFJ := zq (HFJ.out.chg X4.out WHFJ.out (by omega))
  replace HFK := zq (HFK.out.chg X4.out WHFK.out (by omega))
  replace HFL := zq (HFL.out.chg X4.out WHFL.out (by omega))
  replace HRD3 := zq (HRD3.out.chg X4.out (by omega))
  clear hv4
  refine (l6Wrong_c g p3 _ (k + 2) t3 a3 _ HRD3.out (by omega) HH3.out (by omega) ⟨HFI.out, HFJ.out, HFK.out, HFL.out⟩).mono ?_; rintro r w4 ⟨t4, a4, p4, rfl, hh4, ⟨hfm, hfn, hfo, hfp⟩, hrd4, hp4, hb4⟩
  have Y4 : Hid (Chg (g) (g + 1) v4 w4) := zq (Chg.of_grown hb4 (fun b hb => by injection hb with hb; omega))
  have s4 := Y4.out.size
  have Ew4 : Hid (Chg g (g + 1) w w4) := zq (Ev4.out.step Y4.out (by omega))
  clear hb4
  replace KR := zq (KR.out.chg Y4.out (by omega))
  replace KO := zq (KO.out.chg Y4.out (by omega))
  replace HFA := zq (HFA.out.chg Y4.out WHFA.out (by omega))
  replace HFB := zq (HFB.out.chg Y4.out WHFB.out (by omega))
  replace HFC := zq (HFC.out.chg Y4.out WHFC.out (by omega))
  replace HFD := zq (HFD.out.chg Y4.out WHFD.out (by omega))
  replace HFE := zq (HFE.out.chg Y4.out WHFE.out (by omega))
  replace HFI := zq (HFI.out.chg Y4.out WHFI.out (by omega))
  replace HFJ := zq (HFJ.out.chg Y4.out WHFJ.out (by omega))
  replace HFK := zq (HFK.out.chg Y4.out WHFK.out (by omega))
  replace HFL := zq (HFL.out.chg Y4.out WHFL.out (by omega))
  clear HRD3
  have HFM := zq hfm; clear hfm
  have WHFM := zq HFM.out.row
  have HFN := zq hfn; clear hfn
  have WHFN := zq HFN.out.row
  have HFO := zq hfo; clear hfo
  have WHFO := zq HFO.out.row
  have HFP := zq hfp; clear hfp
  have WHFP := zq HFP.out.row
  have HRD4 := zq hrd4; clear hrd4
  have HH4 := zq hh4; clear hh4
  obtain ⟨qR0, qR1, qR2, qR3, qR4, qR5, qR6, qR7, qR8, qR9, qR10⟩ := KR.out.c11
  have jR := KR.out.lt
  have zR := KR.out.frozen
  obtain ⟨qO0, qO1, qO2, qO3, qO4, qO5, qO6, qO7, qO8, qO9, qO10⟩ := KO.out.c11
  have jO := KO.out.lt
  have zO := KO.out.frozen
  go_wp2_with fail
  refine name_calls ?_; intro v5 hv5
  have X5 : Hid (Chg (0) (0) w4 v5) := zx hv5
  have t5 := X5.out.size
  have Ev5 : Hid (Chg g (g + 1) w v5) := zq (Ew4.out.step X5.out (by omega))
  clear qR0 qR1 qR2 qR3 qR4 qR5 qR6 qR7 qR8 qR9 qR10 jR zR
  clear qO0 qO1 qO2 qO3 qO4 qO5 qO6 qO7 qO8 qO9 qO10 jO zO
  replace KR := zq (KR.out.chg X5.out (by omega))
  replace KO := zq (KO.out.chg X5.out (by omega))
  replace HFA := zq (HFA.out.chg X5.out WHFA.out (by omega))
  replace HFB := zq (HFB.out.chg X5.out WHFB.out (by omega))
  replace HFC := zq (HFC.out.chg X5.out WHFC.out (by omega))
  replace HFD := zq (HFD.out.chg X5.out WHFD.out (by omega))
  replace HFE := zq (HFE.out.chg X5.out WHFE.out (by omega))
  replace HFI := zq (HFI.out.chg X5.out WHFI.out (by omega))
  replace HFJ := zq (HFJ.out.chg X5.out WHFJ.out (by omega))
  replace HFK := zq (HFK.out.chg X5.out WHFK.out (by omega))
  replace HFL := zq (HFL.out.chg X5.out WHFL.out (by omega))
  replace HFM := zq (HFM.out.chg X5.out WHFM.out (by omega))
  replace HFN := zq (HFN.out.chg X5.out WHFN.out (by omega))
  replace HFO := zq (HFO.out.chg X5.out WHFO.out (by omega))
  replace HFP := zq (HFP.out.chg X5.out WHFP.out (by omega))
  replace HRD4 := zq (HRD4.out.chg X5.out (by omega))
  clear hv5
  refine (l6Wrong_c g p4 _ (k + 2 + 2) t4 a4 _ HRD4.out (by omega) HH4.out (by omega) ⟨HFM.out, HFN.out, HFO.out, HFP.out⟩).mono ?_; rintro r w5 ⟨t5, a5, p5, rfl, hh5, ⟨hfq, hfr, hfs, hft⟩, hrd5, hp5, hb5⟩
  have Y5 : Hid (Chg (g) (g + 1) v5 w5) := zq (Chg.of_grown hb5 (fun b hb => by injection hb with hb; omega))
  have s5 := Y5.out.size
  have Ew5 : Hid (Chg g (g + 1) w w5) := zq (Ev5.out.step Y5.out (by omega))
  clear hb5
  replace KR := zq (KR.out.chg Y5.out (by omega))
  replace KO := zq (KO.out.chg Y5.out (by omega))
  replace HFA := zq (HFA.out.chg Y5.out WHFA.out (by omega))
  replace HFB := zq (HFB.out.chg Y5.out WHFB.out (by omega))
  replace HFC := zq (HFC.out.chg Y5.out WHFC.out (by omega))
  replace HFD := zq (HFD.out.chg Y5.out WHFD.out (by omega))
  replace HFE := zq (HFE.out.chg Y5.out WHFE.out (by omega))
  replace HFI := zq (HFI.out.chg Y5.out WHFI.out (by omega))
  replace HFJ := zq (HFJ.out.chg Y5.out WHFJ.out (by omega))
  replace HFK := zq (HFK.out.chg Y5.out WHFK.out (by omega))
  replace HFL := zq (HFL.out.chg Y5.out WHFL.out (by omega))
  replace HFM := zq (HFM.out.chg Y5.out WHFM.out (by omega))
  replace HFN := zq (HFN.out.chg Y5.out WHFN.out (by omega))
  replace HFO := zq (HFO.out.chg Y5.out WHFO.out (by omega))
  replace HFP := zq (HFP.out.chg Y5.out WHFP.out (by omega))
  clear HRD4
  have HFQ := zq hfq; clear hfq
  have WHFQ := zq HFQ.out.row
  have HFR := zq hfr; clear hfr
  have WHFR := zq HFR.out.row
  have HFS := zq hfs; clear hfs
  have WHFS := zq HFS.out.row
  have HFT := zq hft; clear hft
  have WHFT := zq HFT.out.row
  have HRD5 := zq hrd5; clear hrd5
  have HH5 := zq hh5; clear hh5
  obtain ⟨qR0, qR1, qR2, qR3, qR4, qR5, qR6, qR7, qR8, qR9, qR10⟩ := KR.out.c11
  have jR := KR.out.lt
  have zR := KR.out.frozen
  obtain ⟨qO0, qO1, qO2, qO3, qO4, qO5, qO6, qO7, qO8, qO9, qO10⟩ := KO.out.c11
  have jO := KO.out.lt
  have zO := KO.out.frozen
  go_wp2
  exact bodyPost_ret (v := .agg #[.slice a5.b (⟨t5, m.marks, m.hand⟩ : MemD).mach.table.buckets.length a5.bc, .slice a5.f (⟨t5, m.marks, m.hand⟩ : MemD).mach.table.frames.length a5.fc, .slice a5.l (⟨t5, m.marks, m.hand⟩ : MemD).mach.cache.lines.length a5.lc, .int .i64 (⟨t5, m.marks, m.hand⟩ : MemD).mach.cache.hand, .int .i64 (⟨t5, m.marks, m.hand⟩ : MemD).mach.tags.count, .int .i64 (⟨t5, m.marks, m.hand⟩ : MemD).mach.tags.next, .int .i64 (⟨t5, m.marks, m.hand⟩ : MemD).mach.tags.round, .slice a5.o (⟨t5, m.marks, m.hand⟩ : MemD).mach.tags.owns.length a5.oc, .int .i64 (⟨t5, m.marks, m.hand⟩ : MemD).mach.space, .slice K1 (⟨t5, m.marks, m.hand⟩ : MemD).marks.length k1, .int .i64 (⟨t5, m.marks, m.hand⟩ : MemD).hand]) (by simp [results, Tryz.results19, go_sem, *]) rfl
   ⟨⟨t5, m.marks, m.hand⟩, a5, K1, k1, p5, rfl, ⟨HH5.out.mono (by omega), HM.out.pos, Nat.le_trans HM.out.len (by omega)⟩, ⟨⟨(Fr.mono (zp HFQ.out WHFQ.out) (by omega)), (Fr.mono (zp HFR.out WHFR.out) (by omega)), (Fr.mono (zp HFS.out WHFS.out) (by omega)), (Fr.mono (zp HFT.out WHFT.out) (by omega))⟩, (Fr.mono (zp HFE.out WHFE.out) (by omega))⟩, Rdr.chg (lo := w.heap.size + 1) (hi := w1.heap.size + 1) HRD5.out (by with_reducible repeat' (first | exact Chg.refl _ _ w5 | refine Chg.alloc ?_ _ | refine Chg.drew ?_ | refine Chg.set ?_ (by omega) _)) (by omega), by omega, Chg.grown (zc Ew5.out)⟩
 have hb2 : (z2 == 2) = false := by simp [hz]
 clear hz
 by_cases hz : z2 = 3
 ·have hb3 : (z2 == 3) = true := by simp [hz]
  clear hz
  go_wp2_with fail
  refine name_calls ?_; intro v3 hv3
  have X3 : Hid (Chg (0) (0) w2 v3) := zx hv3
  have t3 := X3.out.size
  have Ev3 : Hid (Chg g (g + 1) w v3) := zq (Ew2.out.step X3.out (by omega))
  clear qR0 qR1 qR2 qR3 qR4 qR5 qR6 qR7 qR8 qR9 qR10 jR zR
  clear qO0 qO1 qO2 qO3 qO4 qO5 qO6 qO7 qO8 qO9 qO10 jO zO
  replace KR := zq (KR.out.chg X3.out (by omega))
  replace KO := zq (KO.out.chg X3.out (by omega))
  replace HFA := zq (HFA.out.chg X3.out WHFA.out (by omega))
  replace HFB := zq (HFB.out.chg X3.out WHFB.out (by omega))
  replace HFC := zq (HFC.out.chg X3.out WHFC.out (by omega))
  replace HFD := zq (HFD.out.chg X3.out WHFD.out (by omega))
  replace HFE := zq (HFE.out.chg X3.out WHFE.out (by omega))
  replace HRD2 := zq (HRD2.out.chg X3.out (by omega))
  clear hv3
  refine (pick_c g (p + 1) (m.marks.length : Int) _ HRD2.out (by omega) (by omega)).mono ?_; rintro r w3 ⟨z3, rfl, hh3, hrd3, hb3⟩
  have Y3 : Hid (Chg (g) (g + 1) v3 w3) := zq (Chg.of_grown hb3 (fun b hb => by injection hb with hb; omega))
  have s3 := Y3.out.size
  have Ew3 : Hid (Chg g (g + 1) w w3) := zq (Ev3.out.step Y3.out (by omega))
  clear hb3
  replace KR := zq (KR.out.chg Y3.out (by omega))
  replace KO := zq (KO.out.chg Y3.out (by omega))
  replace HFA := zq (HFA.out.chg Y3.out WHFA.out (by omega))
  replace HFB := zq (HFB.out.chg Y3.out WHFB.out (by omega))
  replace HFC := zq (HFC.out.chg Y3.out WHFC.out (by omega))
  replace HFD := zq (HFD.out.chg Y3.out WHFD.out (by omega))
  replace HFE := zq (HFE.out.chg Y3.out WHFE.out (by omega))
  clear HRD2
  have HRD3 := zq hrd3; clear hrd3
  have HH3 := zq hh3; clear hh3
  obtain ⟨qR0, qR1, qR2, qR3, qR4, qR5, qR6, qR7, qR8, qR9, qR10⟩ := KR.out.c11
  have jR := KR.out.lt
  have zR := KR.out.frozen
  obtain ⟨qO0, qO1, qO2, qO3, qO4, qO5, qO6, qO7, qO8, qO9, qO10⟩ := KO.out.c11
  have jO := KO.out.lt
  have zO := KO.out.frozen
  obtain ⟨i, rfl⟩ := Int.eq_ofNat_of_zero_le HH3.out.1
  have hil : i < m.marks.length := by have := HH3.out.2.1 (by omega); omega
  obtain ⟨gK, rs, rfl, hBk, hbk, hrs⟩ := HFE.out.open_ (k := i) hil
  have hk1l := HFE.out.le
  have hk1m := HFE.out.cap
  have hk1p : 0 < k1 := by omega
  have HKa := zq (HFA.out.off hbk (by decide)); have HKb := zq (HFB.out.off hbk (by decide)); have HKc := zq (HFC.out.off hbk (by decide)); have HKd := zq (HFD.out.off hbk (by decide))
  have hKO : ¬ w1.heap.size = gK := fun e => (HFE.out.off KO.out (by decide)) gK (rowOf_some hk1p) e.symm
  have hKR : ¬ w.heap.size + 1 = gK := fun e => (HFE.out.off KR.out (by decide)) gK (rowOf_some hk1p) e.symm
  have hKO2 : ¬ gK = w1.heap.size := fun e => hKO e.symm
  have hKR2 : ¬ gK = w.heap.size + 1 := fun e => hKR e.symm
  have HBK := zq hbk; have HRS := zq hrs
  obtain ⟨v, hv⟩ : ∃ v, m.marks[i]? = some v := ⟨_, List.getElem?_eq_getElem hil⟩
  have gKc := HBK.out.bool hv
  have gKz := HBK.out.frozen i
  have gKl := Blk.lt HBK.out
  have hin : (i : Int) < (m.marks.length : Int) := by omega
  have hi0 : ¬ (i : Int) < 0 := by omega
  have KO3 := zq KO.out; have KR3 := zq KR.out
  have HS0 : Hid ((w3.drew.cell? ⟨w1.heap.size, 0, none⟩ = some (.slice a1.b m.mach.table.buckets.length a1.bc) ∧ w3.drew.cell? ⟨w1.heap.size, 1, none⟩ = some (.slice a1.f m.mach.table.frames.length a1.fc) ∧ w3.drew.cell? ⟨w1.heap.size, 2, none⟩ = some (.slice a1.l m.mach.cache.lines.length a1.lc) ∧ w3.drew.cell? ⟨w1.heap.size, 3, none⟩ = some (.int .i64 m.mach.cache.hand) ∧ w3.drew.cell? ⟨w1.heap.size, 4, none⟩ = some (.int .i64 m.mach.tags.count) ∧ w3.drew.cell? ⟨w1.heap.size, 5, none⟩ = some (.int .i64 m.mach.tags.next) ∧ w3.drew.cell? ⟨w1.heap.size, 6, none⟩ = some (.int .i64 m.mach.tags.round) ∧ w3.drew.cell? ⟨w1.heap.size, 7, none⟩ = some (.slice a1.o m.mach.tags.owns.length a1.oc) ∧ w3.drew.cell? ⟨w1.heap.size, 8, none⟩ = some (.int .i64 m.mach.space) ∧ w3.drew.cell? ⟨w1.heap.size, 9, none⟩ = some (.slice (some ⟨gK, 0, none⟩) m.marks.length k1) ∧ w3.drew.cell? ⟨w1.heap.size, 10, none⟩ = some (.int .i64 m.hand))) := zq (Blk.drew KO3.out).c11
  have HOa := zq (HFA.out.off KO.out (by decide)); have HOb := zq (HFB.out.off KO.out (by decide)); have HOc := zq (HFC.out.off KO.out (by decide)); have HOd := zq (HFD.out.off KO.out (by decide))
  have HPa := zq (HFA.out.off KR.out (by decide)); have HPb := zq (HFB.out.off KR.out (by decide)); have HPc := zq (HFC.out.off KR.out (by decide)); have HPd := zq (HFD.out.off KR.out (by decide))
  clear hbk hrs hv
  go_wp2_with fail
  clear HS0
  go_region
  go_wp2
  exact bodyPost_ret (v := .agg #[.slice a1.b m.mach.table.buckets.length a1.bc, .slice a1.f m.mach.table.frames.length a1.fc, .slice a1.l m.mach.cache.lines.length a1.lc, .int .i64 m.mach.cache.hand, .int .i64 m.mach.tags.count, .int .i64 m.mach.tags.next, .int .i64 m.mach.tags.round, .slice a1.o m.mach.tags.owns.length a1.oc, .int .i64 m.mach.space, .slice (some ⟨gK, 0, none⟩) m.marks.length k1, .int .i64 m.hand]) (by simp [results, Tryz.results19, go_sem, *]) rfl
   ⟨⟨m.mach, m.marks.set i (!v), m.hand⟩, a1, some ⟨gK, 0, none⟩, k1, p + 1 + 1, by rw [List.length_set], ⟨HM.out.b.mono (by omega), by show 0 < (m.marks.set i (!v)).length; rw [List.length_set]; omega, by show (m.marks.set i (!v)).length ≤ _; rw [List.length_set]; have := HM.out.len; omega⟩, ⟨FrM.mono (B := v1.heap.size) ⟨(by with_reducible repeat' (first | exact HFA.out | refine Fr.alloc ?_ _ | refine Fr.drew ?_ | refine Fr.put ?_ HKa.out _ | refine Fr.put ?_ HOa.out _ | refine Fr.put ?_ HPa.out _)), (by with_reducible repeat' (first | exact HFB.out | refine Fr.alloc ?_ _ | refine Fr.drew ?_ | refine Fr.put ?_ HKb.out _ | refine Fr.put ?_ HOb.out _ | refine Fr.put ?_ HPb.out _)), (by with_reducible repeat' (first | exact HFC.out | refine Fr.alloc ?_ _ | refine Fr.drew ?_ | refine Fr.put ?_ HKc.out _ | refine Fr.put ?_ HOc.out _ | refine Fr.put ?_ HPc.out _)), (by with_reducible repeat' (first | exact HFD.out | refine Fr.alloc ?_ _ | refine Fr.drew ?_ | refine Fr.put ?_ HKd.out _ | refine Fr.put ?_ HOd.out _ | refine Fr.put ?_ HPd.out _))⟩ (by omega), Fr.close (xs := m.marks.set i (!v)) (rest := rs) (by with_reducible repeat' (first | exact HBK.out | refine Bk.drew ?_ | refine Bk.far ?_ (by first | (simp; done) | (simp; omega)) _ | refine Bk.set_bool ?_ (!v) hil)) (by omega) (by rw [List.length_set]; exact HRS.out) (by rw [List.length_set]; exact hk1l) hk1m⟩, Rdr.chg (lo := w.heap.size + 1) (hi := w3.heap.size) HRD3.out (by with_reducible repeat' (first | exact Chg.refl _ _ w3 | refine Chg.alloc ?_ _ | refine Chg.drew ?_ | refine Chg.set ?_ (by omega) _)) (by omega), by omega, Chg.grown (zc Ew3.out)⟩
 have hb3 : (z2 == 3) = false := by simp [hz]
 clear hz
 go_wp2
 exact bodyPost_ret (v := .agg #[.slice a1.b m.mach.table.buckets.length a1.bc, .slice a1.f m.mach.table.frames.length a1.fc, .slice a1.l m.mach.cache.lines.length a1.lc, .int .i64 m.mach.cache.hand, .int .i64 m.mach.tags.count, .int .i64 m.mach.tags.next, .int .i64 m.mach.tags.round, .slice a1.o m.mach.tags.owns.length a1.oc, .int .i64 m.mach.space, .slice K1 m.marks.length k1, .int .i64 m.hand]) (by simp [results, Tryz.results19, go_sem, *]) rfl
  ⟨m, a1, K1, k1, p + 1, rfl, ⟨HM.out.b.mono (by omega), HM.out.pos, Nat.le_trans HM.out.len (by omega)⟩, ⟨⟨(Fr.mono (zp HFA.out WHFA.out) (by omega)), (Fr.mono (zp HFB.out WHFB.out) (by omega)), (Fr.mono (zp HFC.out WHFC.out) (by omega)), (Fr.mono (zp HFD.out WHFD.out) (by omega))⟩, (Fr.mono (zp HFE.out WHFE.out) (by omega))⟩, Rdr.chg (lo := w.heap.size + 1) (hi := w1.heap.size + 1) HRD2.out (by with_reducible repeat' (first | exact Chg.refl _ _ w2 | refine Chg.alloc ?_ _ | refine Chg.drew ?_ | refine Chg.set ?_ (by omega) _)) (by omega), by omega, Chg.grown (zc Ew2.out)⟩
end Go.Proofs.YtbdlpbladpppjaaGreatDoor
