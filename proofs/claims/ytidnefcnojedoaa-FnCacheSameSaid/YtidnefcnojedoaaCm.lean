/- The reference's copy of a cache. -/
import Derived.Test.YtidnefcnojedoaaCy
import Derived.Deep.RegionHeld3
import Derived.Deep.AppendLies
namespace Go.Proofs.Ytidnefcnojedoaa
open Go.ChangeShapes Go.WideShapes Go.ChangeAt Go.RowKit
open Rec (sz cs)
set_option linter.unusedVariables false
set_option maxRecDepth 100000

set_option maxHeartbeats 2000000 in
theorem l4Copy_c (t : CacheD) (A : Option Addr) (c : Nat) (w : World) (hx : Rd w A t.lines) (hn : t.lines.length ≤ 1048576) (hc : t.lines.length ≤ c) (hc2 : c ≤ maxLen) :
    Calls Try.prog 46 #[.agg #[.slice A t.lines.length c, .int .i64 t.hand]] w fun r w' => ∃ A' c', r = .returned (.agg #[.slice A' t.lines.length c', .int .i64 t.hand]) ∧ Fr 43 w' w.heap.size A' c' t.lines ∧ Ex w w' := by
  have HX := Lib.hid hx
  clear hx
  obtain ⟨i0, hi, hz0, hz1, hz2⟩ := info_parts infoLine
  obtain ⟨xs, hand⟩ := t
  simp only at HX hn hc ⊢
  have HX' := HX.out
  by_cases h0 : xs.length = 0
  · obtain rfl : xs = [] := List.eq_nil_of_length_eq_zero h0
    cases A with
    | none =>
      go_enter Try.func46, Try.ntmps46
      go_wp2_with fail
      go_region
      go_wp2
      exact bodyPost_ret (v := .agg #[.slice (some ⟨w.heap.size + 1 + 1, 0, none⟩) 0 0, .int .i64 hand]) (by simp [results, Try.results46, go_sem]) rfl
        ⟨some ⟨w.heap.size + 1 + 1, 0, none⟩, 0, rfl, ⟨Nat.le_refl _, Nat.zero_le _, .inl rfl⟩, ((((Ex.refl w).alloc _).alloc _).alloc _).drew⟩
    | some ad =>
      go_enter Try.func46, Try.ntmps46
      go_wp2_with fail
      go_region
      go_wp2
      exact bodyPost_ret (v := .agg #[.slice (some ⟨w.heap.size + 1 + 1, 0, none⟩) 0 0, .int .i64 hand]) (by simp [results, Try.results46, go_sem]) rfl
        ⟨some ⟨w.heap.size + 1 + 1, 0, none⟩, 0, rfl, ⟨Nat.le_refl _, Nat.zero_le _, .inl rfl⟩, ((((Ex.refl w).alloc _).alloc _).alloc _).drew⟩
  · obtain ⟨b, off, e, hb, hcs⟩ := HX.out (by omega)
    subst e
    clear HX' hb hcs
    go_enter Try.func46, Try.ntmps46
    go_wp2_with fail
    obtain ⟨w0, hw0⟩ : ∃ w0 : World, w0 = ((w.alloc (.cells #[.slice (some ⟨b, off, none⟩) xs.length c, .int .i64 hand] 33)).alloc (.cells #[.slice none 0 0, .int .i64 0] 33)) := ⟨_, rfl⟩
    have E0 : Hid (Ex w w0) := Lib.hid (by rw [hw0]; exact ((Ex.refl w).alloc _).alloc _)
    have KC : Hid (Blk w0 w.heap.size 33 [.slice (some ⟨b, off, none⟩) xs.length c, .int .i64 hand]) := Lib.hid (by rw [hw0]; exact (Blk.new _ _ _).alloc _)
    have KR : Hid (Blk w0 (w.heap.size + 1) 33 [.slice none 0 0, .int .i64 0]) := Lib.hid (by rw [hw0]; exact Blk.new_at _ _ _ (by simp))
    have HX0 : Hid (Rd w0 (some ⟨b, off, none⟩) xs) := Lib.hid (HX.out.ex E0.out)
    have hcell : Hid (∀ (w' : World), Ex w0 w' → ∀ j u, (flat xs)[j]? = some u → w'.cell? ((⟨b, off, none⟩ : Addr).add j) = some u) := Lib.hid (by
      intro w' hw j u hu
      have hlt := getElem?_lt hu
      rw [flat_length] at hlt
      obtain ⟨b', o', e, hb, hcs⟩ := (HX0.out.ex hw) (by omega)
      injection e with e
      injection e with e1 e2
      subst e1 e2
      have := hcs j u hu
      by_cases hj : j = 0
      · subst hj; simpa [Addr.add] using this
      · simpa [Addr.add, hj] using this)
    have H63 : Hid (0 + xs.length ≤ maxLen) := Lib.hid (by simp [maxLen]; omega)
    have HBY : Hid ((0 + xs.length) * 48 ≤ 140737488355328) := Lib.hid (by omega)
    have HM : Hid (0 < xs.length) := Lib.hid (by omega)
    have HO : Hid (∀ w1 : World, (w1.alloc (.cells #[] 43)).ownsRow w1.heap.size 43 6 (.slice (some ⟨w1.heap.size, 0, none⟩) 0 0) 0 []) := Lib.hid (fun w1 => ⟨by simp, .inr ⟨w1.heap.size, 0, #[], rfl, Nat.le_refl _, heap_alloc_new w1 _, Nat.le_refl _, by decide, by simp, by simp⟩⟩)
    have HBG : Hid (∀ w2 : World, (w0.drew.alloc (.cells #[] 43)).grownBy w2 (Value.slice (some ⟨w0.drew.heap.size, 0, none⟩) 0 0).ownBlock → Ex w0 w2) := Lib.hid (fun w2 hg => (((Ex.refl w0).drew).alloc _).grown hg (by rintro k hk; simp [Value.ownBlock] at hk; omega))
    obtain ⟨gc, hgc⟩ : ∃ gc : Nat, gc = w.heap.size := ⟨_, rfl⟩
    rw [← hw0, ← hgc]
    rw [← hgc] at KC KR
    have HG := Lib.hid hgc
    clear hw0 hgc HX
    go_region_held3 (fun w' => (w'.cell? ⟨gc, 0, none⟩ = some (.slice (some ⟨b, off, none⟩) xs.length c) ∧ w'.cell? ⟨gc, 1, none⟩ = some (.int .i64 hand))) (first | exact KC.out.c2 | exact (Blk.drew KC.out).c2 | exact ((Blk.drew KC.out).alloc _).c2 | exact (Blk.ex KC.out hba).c2 | go_keep) (first | (refine step_append_lies _ rfl _ _ 31 rfl w0.heap.size 43 i0 _ 6 48 Try.underlying31 hi hz0 hz1 hz2 rfl (by decide) _ 0 [] rfl (HO.out w0.drew) ⟨b, off, none⟩ xs.length c (flat xs) rfl (flat_length xs) (hcell.out _ (((Ex.refl w0).drew).alloc _)) (flat_one xs) HM.out H63.out HBY.out (by simp) _ rfl ?_; intro g cap w2 ho hg hat hlt; have hba := HBG.out _ hg; have hr := Blk.ex KR.out hba; obtain ⟨hr0, hr1⟩ := hr.c2; have hrf := hr.frozen; have hrl := hr.lt; clear hr; have hk := Blk.ex KC.out hba; obtain ⟨hk0, hk1⟩ := hk.c2; have hkl := hk.lt; clear hk))
    rename_i hHeld
    clear hHeld hk0 hk1 hkl hr0 hr1 hrf hrl hat hg hlt
    simp only [Nat.zero_add, List.nil_append] at ho
    obtain ⟨A2, c2, e, hf⟩ := Fr.of_own ho rfl
    cases e
    have HF := Lib.hid hf
    have HBA := Lib.hid hba
    clear ho hf hba
    have hr := Blk.set (Blk.set (Blk.ex KR.out HBA.out) 0 (.slice (some ⟨g, 0, none⟩) xs.length cap)) 1 (.int .i64 hand)
    obtain ⟨hr0, hr1⟩ := Blk.c2 hr
    have hl := hr.lt
    clear hr
    have HL := Lib.hid KR.out.lt
    have HL2 := Lib.hid E0.out.size
    have hgl : w.heap.size ≤ gc + 1 := by have := HG.out; omega
    go_wp2
    exact bodyPost_ret (v := .agg #[.slice (some ⟨g, 0, none⟩) xs.length cap, .int .i64 hand]) (by simp [results, Try.results46, go_sem, *]) rfl
      ⟨some ⟨g, 0, none⟩, cap, rfl, Fr.mono ((HF.out.set_below HL.out _).set_below HL.out _) HL2.out, ((E0.out.trans HBA.out).set hgl _).set hgl _⟩
end Go.Proofs.Ytidnefcnojedoaa
