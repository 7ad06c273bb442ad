/- Copies of tags: slices.Clone, slices.Clip, l5Copy; appending one owner. -/
import Derived.Test.YtidnefcnojedoaaTo
import Derived.Test.YtidnefcnojedoaaAp
import Derived.Deep.RegionHeld3
namespace Go.Proofs.Ytidnefcnojedoaa
open Go.ChangeShapes Go.WideShapes Go.ChangeAt Go.RowKit
open Rec (sz cs)
set_option linter.unusedVariables false
set_option maxRecDepth 100000

/-- A slice clipped reads as before and is the call's own still. -/
theorem Fr.clip {α : Type} [Rec α] {E : TypeId} {w : World} {B : Nat} {A : Option Addr} {c n : Nat} {xs : List α} (h : Fr E w B A c xs) (hn : n = xs.length) : Fr E w B A n xs := by
  subst hn
  obtain ⟨hl, hm, h0 | ⟨g, rest, e, hB, hb, hr⟩⟩ := h
  · exact ⟨Nat.le_refl _, Nat.le_trans hl hm, .inl (by omega)⟩
  · exact ⟨Nat.le_refl _, Nat.le_trans hl hm, .inr ⟨g, rest, e, hB, hb, by rw [Nat.sub_self, Nat.zero_mul]; exact Nat.zero_le _⟩⟩

set_option maxHeartbeats 2000000 in
theorem l5Copy_c (t : TagsD) (A : Option Addr) (c : Nat) (w : World) (hx : Rd w A t.owns) (hn : t.owns.length ≤ 1048576) (hc : t.owns.length ≤ c) (hc2 : c ≤ maxLen) :
    Calls Try.prog 41 #[.agg #[.int .i64 t.count, .int .i64 t.next, .int .i64 t.round, .slice A t.owns.length c]] w fun r w' => ∃ A' c', r = .returned (.agg #[.int .i64 t.count, .int .i64 t.next, .int .i64 t.round, .slice A' t.owns.length c']) ∧ Fr 50 w' w.heap.size A' c' t.owns ∧ Ex w w' := by
  have HX := Lib.hid hx
  clear hx
  obtain ⟨i0, hi, hz0, hz1, hz2⟩ := info_parts infoOwn
  obtain ⟨cnt, nxt, rnd, xs⟩ := t
  simp only at HX hn hc ⊢
  go_enter Try.func41, Try.ntmps41
  go_wp2_with fail
  obtain ⟨w0, hw0⟩ : ∃ w0 : World, w0 = ((w.alloc (.cells #[.int .i64 cnt, .int .i64 nxt, .int .i64 rnd, .slice A xs.length c] 25)).alloc (.cells #[.int .i64 0, .int .i64 0, .int .i64 0, .slice none 0 0] 25)) := ⟨_, rfl⟩
  have E0 : Hid (Ex w w0) := Lib.hid (by rw [hw0]; exact ((Ex.refl w).alloc _).alloc _)
  have KC : Hid (Blk w0 w.heap.size 25 [.int .i64 cnt, .int .i64 nxt, .int .i64 rnd, .slice A xs.length c]) := Lib.hid (by rw [hw0]; exact (Blk.new _ _ _).alloc _)
  have KR : Hid (Blk w0 (w.heap.size + 1) 25 [.int .i64 0, .int .i64 0, .int .i64 0, .slice none 0 0]) := Lib.hid (by rw [hw0]; exact Blk.new_at _ _ _ (by simp))
  have HX0 : Hid (Rd w0 A xs) := Lib.hid (HX.out.ex E0.out)
  have H63 : Hid (0 + xs.length ≤ maxLen) := Lib.hid (by simp [maxLen]; omega)
  have HBY : Hid ((0 + xs.length) * 16 ≤ 140737488355328) := Lib.hid (by omega)
  have HO : Hid (∀ (w1 : World) (a : Option Addr), Fr 50 w1 w0.heap.size a 0 ([] : List OwnD)) := Lib.hid (fun w1 a => Fr.none_ _ _ _ _)
  have HBG : Hid (∀ (w2 : World) (a : Option Addr), (w0.alloc (.cells #[] 50)).drew.grownBy w2 (rowOf a 0) → Ex w0 w2) := Lib.hid (fun w2 a hg => (((Ex.refl w0).alloc _).drew).grown hg (by rintro k hk; simp [rowOf] at hk))
  have HSZ : Hid (∀ o : Obj, w0.heap.size ≤ (w0.alloc o).drew.heap.size) := Lib.hid (fun o => by simp)
  obtain ⟨gc, hgc⟩ : ∃ gc : Nat, gc = w.heap.size := ⟨_, rfl⟩
  rw [← hw0, ← hgc]
  rw [← hgc] at KC KR
  have HG := Lib.hid hgc
  clear hw0 hgc HX
  go_region_held3 (fun w' => (w'.cell? ⟨gc, 0, none⟩ = some (.int .i64 cnt) ∧ w'.cell? ⟨gc, 1, none⟩ = some (.int .i64 nxt) ∧ w'.cell? ⟨gc, 2, none⟩ = some (.int .i64 rnd) ∧ w'.cell? ⟨gc, 3, none⟩ = some (.slice A xs.length c))) (first | with_reducible exact KC.out.c4 | with_reducible exact (Blk.drew KC.out).c4 | with_reducible exact (Blk.drew (KC.out.alloc _)).c4 | with_reducible exact (Blk.ex KC.out hba).c4 | with_reducible exact (Blk.drew (Blk.ex KC.out hba)).c4 | go_keep) (first | (refine step_append_fr (α := OwnD) rfl _ _ 23 rfl 50 i0 _ 16 w0.heap.size Try.underlying23 hi hz0 hz1 hz2 rfl _ 0 0 [] rfl rfl (HO.out _ _) A c _ xs rfl rfl (Rd.drew (HX0.out.alloc _)) H63.out HBY.out (HSZ.out _) ?_; intro A2 c2 w2 ha; have hba := HBG.out _ _ ha.grown; have hr := Blk.ex KR.out hba; obtain ⟨hr0, hr1, hr2, hr3⟩ := hr.c4; have hrf := hr.frozen; have hrl := hr.lt; clear hr; have hk := Blk.ex KC.out hba; obtain ⟨hk0, hk1, hk2, hk3⟩ := hk.c4; have hkl := hk.lt; clear hk))
  rename_i hHeld
  clear hHeld hk0 hk1 hk2 hk3 hkl hr0 hr1 hr2 hr3 hrf hrl
  simp only [List.nil_append] at ha
  try simp only [Nat.zero_add]
  have HF := Lib.hid ha.fr
  have HBA := Lib.hid hba
  clear ha hba
  have hr := Blk.set (Blk.set (Blk.set (Blk.set (Blk.ex KR.out HBA.out) 0 (.int .i64 cnt)) 1 (.int .i64 nxt)) 2 (.int .i64 rnd)) 3 (.slice A2 xs.length c2)
  obtain ⟨hr0, hr1, hr2, hr3⟩ := Blk.c4 hr
  have hl := hr.lt
  clear hr
  have HL := Lib.hid KR.out.lt
  have HL2 := Lib.hid E0.out.size
  have hgl : w.heap.size ≤ gc + 1 := by have := HG.out; omega
  go_wp2
  exact bodyPost_ret (v := .agg #[.int .i64 cnt, .int .i64 nxt, .int .i64 rnd, .slice A2 xs.length c2]) (by simp [results, Try.results41, go_sem, *]) rfl
    ⟨A2, c2, rfl, Fr.mono (B := w0.heap.size) (by repeat' (first | exact HF.out | with_reducible refine Fr.set_below ?_ HL.out _)) HL2.out, by repeat' (first | exact E0.out.trans HBA.out | with_reducible refine Ex.set ?_ hgl _)⟩
end Go.Proofs.Ytidnefcnojedoaa
