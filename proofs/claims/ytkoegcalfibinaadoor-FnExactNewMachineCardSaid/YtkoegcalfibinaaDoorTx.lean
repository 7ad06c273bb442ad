/- Copies of tags: slices.Clone, slices.Clip, l5Copy; appending one owner. -/
import Derived.Test.YtkoegcalfibinaaDoorTo
import Derived.Test.YtkoegcalfibinaaDoorAp
import Derived.Deep.RegionHeld3
namespace Go.Proofs.YtkoegcalfibinaaDoor
open Go.ChangeShapes Go.WideShapes Go.ChangeAt Go.RowKit
open Rec (sz cs)
set_option linter.unusedVariables false
set_option maxRecDepth 100000

set_option maxHeartbeats 1000000 in
theorem cloneOwn_c (A : Option Addr) (c : Nat) (xs : List OwnD) (w : World) (hx : Rd w A xs) (hn : xs.length ≤ 1048576) (hc : xs.length ≤ c) (hc2 : c ≤ maxLen) :
    Calls Tryd.prog 88 #[.slice A xs.length c] w fun r w' => ∃ A' c', r = .returned (.slice A' xs.length c') ∧ Fr 129 w' w.heap.size A' c' xs ∧ Ex w w' := by
  obtain ⟨i0, hi, hz0, hz1, hz2⟩ := info_parts infoOwn
  have hq : ∀ w, (binOp .eql 37 (.slice A xs.length c) (.slice none 0 0)).run Tryd.prog w = .ok (.bool A.isNone) w := fun w => by simp only [binOp]; simp [run_equal_slice_nil w 37 129 A xs.length c Tryd.underlying37]
  have HX := Lib.hid hx
  cases A with
  | none =>
    have h0 : xs = [] := by
      cases xs with
      | nil => rfl
      | cons x l => obtain ⟨b, o, e, _⟩ := hx (by simp); cases e
    subst h0
    simp only [Option.isNone_none, List.length_nil] at hq ⊢
    clear hx
    go_enter Tryd.func88, Tryd.ntmps88
    go_wp2
    go_ret
    exact ⟨none, 0, rfl, Fr.none_ _ _ _ _, Ex.refl _⟩
  | some ad =>
    simp only [Option.isNone_some] at hq
    clear hx
    have hcm : 0 + xs.length ≤ maxLen := by omega
    have hby : (0 + xs.length) * 16 ≤ 140737488355328 := by omega
    go_enter Tryd.func88, Tryd.ntmps88
    have HOW : Hid (∀ (w1 : World) (a : Option Addr), Fr 129 w1 w.heap.size a 0 ([] : List OwnD)) := Lib.hid (fun w1 a => Fr.none_ _ _ _ _)
    go_wp2_with (at_builtin; refine wpList_append_fr (α := OwnD) rfl _ _ 37 rfl 129 i0 (.agg #[.int .i64 0, .int .i64 0]) 16 w.heap.size Tryd.underlying37 hi hz0 hz1 hz2 rfl (some ⟨w.heap.size, 0, none⟩) 0 0 [] rfl rfl (HOW.out _ _) (some ad) c xs.length xs rfl rfl (HX.out.alloc _) hcm hby (by simp) ?_)
    intro A2 c2 w2 ha
    have hb2 : Ex w w2 := ((Ex.refl w).alloc _).grown ha.grown (fun g hg => by simp [rowOf] at hg)
    have HF := Lib.hid ha.fr
    have HB := Lib.hid hb2
    clear hb2 ha
    try simp only [List.nil_append] at HF
    try simp only [Nat.zero_add]
    go_wp2
    go_ret
    exact ⟨A2, c2, rfl, HF.out, HB.out⟩
theorem clipOwn_c (A : Option Addr) (n c : Nat) (w : World) (hc : n ≤ c) (hc2 : c ≤ maxLen) :
    Calls Tryd.prog 87 #[.slice A n c] w fun r w' => r = .returned (.slice A n n) ∧ w = w' := by
  have h : (n : Int) ≤ c := by omega
  go_enter Tryd.func87, Tryd.ntmps87
  go_wp2
  go_ret
  exact ⟨rfl, rfl⟩
/-- A slice clipped reads as before and is the call's own still. -/
theorem Fr.clip {α : Type} [Rec α] {E : TypeId} {w : World} {B : Nat} {A : Option Addr} {c n : Nat} {xs : List α} (h : Fr E w B A c xs) (hn : n = xs.length) : Fr E w B A n xs := by
  subst hn
  obtain ⟨hl, hm, h0 | ⟨g, rest, e, hB, hb, hr⟩⟩ := h
  · exact ⟨Nat.le_refl _, Nat.le_trans hl hm, .inl (by omega)⟩
  · exact ⟨Nat.le_refl _, Nat.le_trans hl hm, .inr ⟨g, rest, e, hB, hb, by rw [Nat.sub_self, Nat.zero_mul]; exact Nat.zero_le _⟩⟩

set_option maxHeartbeats 2000000 in
theorem l5Copy_c (t : TagsD) (A : Option Addr) (c : Nat) (w : World) (hx : Rd w A t.owns) (hn : t.owns.length ≤ 1048576) (hc : t.owns.length ≤ c) (hc2 : c ≤ maxLen) :
    Calls Tryd.prog 86 #[.agg #[.int .i64 t.count, .int .i64 t.next, .int .i64 t.round, .slice A t.owns.length c]] w fun r w' => ∃ A' c', r = .returned (.agg #[.int .i64 t.count, .int .i64 t.next, .int .i64 t.round, .slice A' t.owns.length c']) ∧ Fr 129 w' w.heap.size A' c' t.owns ∧ Ex w w' := by
  have HX := Lib.hid hx
  clear hx
  obtain ⟨i0, hi, hz0, hz1, hz2⟩ := info_parts infoOwn
  obtain ⟨cnt, nxt, rnd, xs⟩ := t
  simp only at HX hn hc ⊢
  go_enter Tryd.func86, Tryd.ntmps86
  go_wp2_with fail
  obtain ⟨w0, hw0⟩ : ∃ w0 : World, w0 = ((w.alloc (.cells #[.int .i64 cnt, .int .i64 nxt, .int .i64 rnd, .slice A xs.length c] 39)).alloc (.cells #[.int .i64 0, .int .i64 0, .int .i64 0, .slice none 0 0] 39)) := ⟨_, rfl⟩
  have E0 : Hid (Ex w w0) := Lib.hid (by rw [hw0]; exact ((Ex.refl w).alloc _).alloc _)
  have KC : Hid (Blk w0 w.heap.size 39 [.int .i64 cnt, .int .i64 nxt, .int .i64 rnd, .slice A xs.length c]) := Lib.hid (by rw [hw0]; exact (Blk.new _ _ _).alloc _)
  have KR : Hid (Blk w0 (w.heap.size + 1) 39 [.int .i64 0, .int .i64 0, .int .i64 0, .slice none 0 0]) := Lib.hid (by rw [hw0]; exact Blk.new_at _ _ _ (by simp))
  have HX0 : Hid (Rd w0 A xs) := Lib.hid (HX.out.ex E0.out)
  have H63 : Hid (0 + xs.length ≤ maxLen) := Lib.hid (by simp [maxLen]; omega)
  have HBY : Hid ((0 + xs.length) * 16 ≤ 140737488355328) := Lib.hid (by omega)
  have HO : Hid (∀ (w1 : World) (a : Option Addr), Fr 129 w1 w0.heap.size a 0 ([] : List OwnD)) := Lib.hid (fun w1 a => Fr.none_ _ _ _ _)
  have HBG : Hid (∀ (w2 : World) (a : Option Addr), (w0.alloc (.cells #[] 129)).drew.grownBy w2 (rowOf a 0) → Ex w0 w2) := Lib.hid (fun w2 a hg => (((Ex.refl w0).alloc _).drew).grown hg (by rintro k hk; simp [rowOf] at hk))
  have HSZ : Hid (∀ o : Obj, w0.heap.size ≤ (w0.alloc o).drew.heap.size) := Lib.hid (fun o => by simp)
  obtain ⟨gc, hgc⟩ : ∃ gc : Nat, gc = w.heap.size := ⟨_, rfl⟩
  rw [← hw0, ← hgc]
  rw [← hgc] at KC KR
  have HG := Lib.hid hgc
  clear hw0 hgc HX
  go_region_held3 (fun w' => (w'.cell? ⟨gc, 0, none⟩ = some (.int .i64 cnt) ∧ w'.cell? ⟨gc, 1, none⟩ = some (.int .i64 nxt) ∧ w'.cell? ⟨gc, 2, none⟩ = some (.int .i64 rnd) ∧ w'.cell? ⟨gc, 3, none⟩ = some (.slice A xs.length c))) (first | with_reducible exact KC.out.c4 | with_reducible exact (Blk.drew KC.out).c4 | with_reducible exact (Blk.drew (KC.out.alloc _)).c4 | with_reducible exact (Blk.ex KC.out hba).c4 | with_reducible exact (Blk.drew (Blk.ex KC.out hba)).c4 | go_keep) (first | (refine step_append_fr (α := OwnD) rfl _ _ 37 rfl 129 i0 _ 16 w0.heap.size Tryd.underlying37 hi hz0 hz1 hz2 rfl _ 0 0 [] rfl rfl (HO.out _ _) A c _ xs rfl rfl (Rd.drew (HX0.out.alloc _)) H63.out HBY.out (HSZ.out _) ?_; intro A2 c2 w2 ha; have hba := HBG.out _ _ ha.grown; have hr := Blk.ex KR.out hba; obtain ⟨hr0, hr1, hr2, hr3⟩ := hr.c4; have hrf := hr.frozen; have hrl := hr.lt; clear hr; have hk := Blk.ex KC.out hba; obtain ⟨hk0, hk1, hk2, hk3⟩ := hk.c4; have hkl := hk.lt; clear hk))
  rename_i hHeld
  clear hHeld hk0 hk1 hk2 hk3 hkl hr0 hr1 hr2 hr3 hrf hrl
  simp only [List.nil_append] at ha
  try simp only [Nat.zero_add]
  have HF := Lib.hid ha.fr
  have HBA := Lib.hid hba
  clear ha hba
  have hr := Blk.set (Blk.set (Blk.set (Blk.set (Blk.ex KR.out HBA.out) 0 (.int .i64 cnt)) 1 (.int .i64 nxt)) 2 (.int .i64 rnd)) 3 (.slice A2 xs.length c2)
  obtain ⟨hr0, hr1, hr2, hr3⟩ := Blk.c4 hr
  have hl := hr.lt
  clear hr
  have HL := Lib.hid KR.out.lt
  have HL2 := Lib.hid E0.out.size
  have hgl : w.heap.size ≤ gc + 1 := by have := HG.out; omega
  go_wp2
  exact bodyPost_ret (v := .agg #[.int .i64 cnt, .int .i64 nxt, .int .i64 rnd, .slice A2 xs.length c2]) (by simp [results, Tryd.results86, go_sem, *]) rfl
    ⟨A2, c2, rfl, Fr.mono (B := w0.heap.size) (by repeat' (first | exact HF.out | with_reducible refine Fr.set_below ?_ HL.out _)) HL2.out, by repeat' (first | exact E0.out.trans HBA.out | with_reducible refine Ex.set ?_ hgl _)⟩
end Go.Proofs.YtkoegcalfibinaaDoor
