/- Copies of caches: slices.Clone, slices.Clip, with; l4Copy. -/
import Derived.Test.YtcaaficjcghheabCy
import Derived.Deep.RegionHeld3
namespace Go.Proofs.Ytcaaficjcghheab
open Go.ChangeShapes Go.WideShapes Go.ChangeAt Go.RowKit
open Rec (sz cs)
set_option linter.unusedVariables false
set_option maxRecDepth 100000

set_option maxHeartbeats 1000000 in
theorem clone_c (A : Option Addr) (c : Nat) (xs : List LineD) (w : World) (hx : Rd w A xs) (hn : xs.length ≤ 1048576) (hc : xs.length ≤ c) (hc2 : c ≤ maxLen) :
    Calls Try.prog 73 #[.slice A xs.length c] w fun r w' => ∃ A' c', r = .returned (.slice A' xs.length c') ∧ Fr 31 w' w.heap.size A' c' xs ∧ Ex w w' := by
  obtain ⟨i0, hi, hz0, hz1, hz2⟩ := info_parts infoLine
  have hq : ∀ w, (binOp .eql 23 (.slice A xs.length c) (.slice none 0 0)).run Try.prog w = .ok (.bool A.isNone) w := fun w => by simp only [binOp]; simp [run_equal_slice_nil w 23 31 A xs.length c Try.underlying23]
  cases A with
  | none =>
    have h0 : xs = [] := by
      cases xs with
      | nil => rfl
      | cons x l => obtain ⟨b, o, e, _⟩ := hx (by simp); cases e
    subst h0
    simp only [Option.isNone_none, List.length_nil] at hq ⊢
    go_enter Try.func73, Try.ntmps73
    go_wp2
    go_ret
    exact ⟨none, 0, rfl, Fr.none_ _ _ _ _, Ex.refl _⟩
  | some ad =>
    simp only [Option.isNone_some] at hq
    have hcell : ∀ (w' : World), Ex w w' → ∀ j u, (flat xs)[j]? = some u → w'.cell? (ad.add j) = some u := by
      intro w' hw j u hu
      have hlt := getElem?_lt hu
      rw [flat_length] at hlt
      obtain ⟨b, o, e, hb, hcs⟩ := (hx.ex hw) (by rcases xs with _ | ⟨x, l⟩ <;> simp at hlt ⊢)
      injection e with e
      subst e
      have := hcs j u hu
      by_cases hj : j = 0
      · subst hj; simpa [Addr.add] using this
      · simpa [Addr.add, hj] using this
    go_enter Try.func73, Try.ntmps73
    go_wp2_with (at_builtin; refine wpList_append_own _ rfl _ _ 23 rfl w.heap.size 31 i0 (.agg #[.bool false, .int .i64 0, .int .i64 0, .int .i64 0, .int .i64 0, .bool false]) 6 48 Try.underlying23 hi hz0 hz1 hz2 rfl (by decide) (.slice (some ⟨w.heap.size, 0, none⟩) 0 0) 0 [] rfl ?own ad xs.length c (flat xs) rfl (flat_length xs) (hcell _ ((Ex.refl w).alloc _)) (flat_one xs) ?h63 ?hby ?hba ?_)
    case own => exact ⟨by simp, .inr ⟨w.heap.size, 0, #[], rfl, Nat.le_refl _, heap_alloc_new w _, Nat.le_refl _, by decide, by simp, by simp⟩⟩
    case h63 => simp [maxLen]; omega
    case hby => omega
    case hba => simp
    intro v' w2 ho hg hnil
    try rw [Nat.zero_add, List.nil_append] at ho
    have hb2 : Ex w w2 := ((Ex.refl w).alloc _).grown hg (by rintro k hk; simp [Value.ownBlock] at hk; omega)
    obtain ⟨A2, c2, rfl, hf⟩ := Fr.of_own ho rfl
    have HF := Lib.hid hf
    have HB := Lib.hid hb2
    clear hf hb2 hg hnil ho hcell
    go_wp2
    go_ret
    exact ⟨A2, c2, rfl, HF.out, HB.out⟩
theorem clip_c (A : Option Addr) (n c : Nat) (w : World) (hc : n ≤ c) (hc2 : c ≤ maxLen) :
    Calls Try.prog 72 #[.slice A n c] w fun r w' => r = .returned (.slice A n n) ∧ w = w' := by
  have h : (n : Int) ≤ c := by omega
  go_enter Try.func72, Try.ntmps72
  go_wp2
  go_ret
  exact ⟨rfl, rfl⟩

set_option maxHeartbeats 4000000 in
theorem with_c (t : CacheD) (k : Nat) (x : LineD) (A : Option Addr) (c : Nat) (w : World) (hx : Rd w A t.lines) (hn : t.lines.length ≤ 1048576) (hc : t.lines.length ≤ c) (hc2 : c ≤ maxLen) (hk : k < t.lines.length) :
    Calls Try.prog 59 #[.agg #[.slice A t.lines.length c, .int .i64 t.hand], .int .i64 k, .agg #[.bool x.valid, .int .i64 x.tag, .int .i64 x.page, .int .i64 x.frame, .int .i64 x.rights, .bool x.wired]] w fun r w' => ∃ A', r = .returned (.agg #[.slice A' t.lines.length t.lines.length, .int .i64 t.hand]) ∧ Fr 31 w' w.heap.size A' t.lines.length (t.lines.set k x) ∧ Ex w w' := by
  have HX := Lib.hid hx
  clear hx
  go_enter Try.func59, Try.ntmps59
  go_wp2_with fail
  obtain ⟨w0, hw0⟩ : ∃ w0 : World, w0 = (((w.alloc (.cells #[.slice A t.lines.length c, .int .i64 t.hand] 25)).alloc (.cells #[.bool x.valid, .int .i64 x.tag, .int .i64 x.page, .int .i64 x.frame, .int .i64 x.rights, .bool x.wired] 31)).alloc (.cells #[.slice none 0 0, .int .i64 0] 25)) := ⟨_, rfl⟩
  have E0 : Hid (Ex w w0) := Lib.hid (by rw [hw0]; exact (((Ex.refl w).alloc _).alloc _).alloc _)
  have KC : Hid (Blk w0 w.heap.size 25 [.slice A t.lines.length c, .int .i64 t.hand]) := Lib.hid (by rw [hw0]; exact ((Blk.new _ _ _).alloc _).alloc _)
  have KL : Hid (Blk w0 (w.heap.size + 1) 31 [.bool x.valid, .int .i64 x.tag, .int .i64 x.page, .int .i64 x.frame, .int .i64 x.rights, .bool x.wired]) := Lib.hid (by rw [hw0]; exact (Blk.new_at _ _ _ (by simp)).alloc _)
  have KR : Hid (Blk w0 (w.heap.size + 1 + 1) 25 [.slice none 0 0, .int .i64 0]) := Lib.hid (by rw [hw0]; exact Blk.new_at _ _ _ (by simp))
  have HX0 : Hid (Rd w0 A t.lines) := Lib.hid (HX.out.ex E0.out)
  obtain ⟨gc, hgc⟩ : ∃ gc : Nat, gc = w.heap.size := ⟨_, rfl⟩
  rw [← hw0, ← hgc]
  rw [← hgc] at KC KL KR
  have HG := Lib.hid hgc
  have HNE : Hid (¬ gc = w0.heap.size ∧ ¬ w0.heap.size = gc) := Lib.hid (by have := KC.out.lt; omega)
  clear hw0 hgc
  go_region_held3 (fun w' => (w'.cell? ⟨gc, 0, none⟩ = some (.slice A t.lines.length c) ∧ w'.cell? ⟨gc, 1, none⟩ = some (.int .i64 t.hand))) (first | exact KC.out.c2 | exact (Blk.drew KC.out).c2 | exact ((Blk.drew KC.out).alloc _).c2 | exact (Blk.ex (Blk.drew KC.out) hba).c2 | exact (Blk.ex ((Blk.drew KC.out).alloc _) hba).c2 | exact ((Blk.ex (Blk.drew KC.out) hba).alloc _).c2 | go_keep) (first | (go_at_call 73; (with_reducible refine (clone_c A c t.lines _ ?_ hn hc hc2).mono ?_); (first | exact Rd.drew HX0.out | exact (Rd.drew HX0.out).alloc _); rintro r wa ⟨A2, c2, rfl, hfa, hba⟩; (first | (have hk := Blk.ex (Blk.drew KC.out) hba) | (have hk := Blk.ex ((Blk.drew KC.out).alloc _) hba; have hz : Blk wa w0.heap.size 25 [.slice none 0 0, .int .i64 0] := Blk.ex (Blk.new w0.drew 25 [.slice none 0 0, .int .i64 0]) hba; obtain ⟨hz0, hz1⟩ := hz.c2; have hzf := hz.frozen; have hzl := hz.lt; have hzn := HNE.out)); obtain ⟨hk0, hk1⟩ := hk.c2; have lk := hk.lt; clear hk) | (go_at_call 72; (with_reducible refine (clip_c A2 t.lines.length c2 _ hfa.le hfa.cap).mono ?_); rintro r wb ⟨rfl, rfl⟩))
  all_goals
    rename_i hHeld
    clear hHeld hk0 hk1 lk
    obtain ⟨g, rest, rfl, hBg, hbk, hrest⟩ := hfa.open_ hk
    have hgl := Blk.lt hbk
    have hBg' : w0.heap.size ≤ g := by first | exact hBg | (simp at hBg; omega)
    have hba0 : Ex w0 wa := by first | exact ((Ex.refl w0).drew).trans hba | exact (((Ex.refl w0).drew).alloc _).trans hba
  all_goals
    first
      | (obtain ⟨wE, hwE⟩ : ∃ wE : World, wE = wa.alloc (.cells #[.slice (some ⟨g, 0, none⟩) t.lines.length t.lines.length, .int .i64 t.hand] 25) := ⟨_, rfl⟩
         have KN : Hid (Blk wE wa.heap.size 25 [.slice (some ⟨g, 0, none⟩) t.lines.length t.lines.length, .int .i64 t.hand]) := Lib.hid (by rw [hwE]; exact Blk.new _ _ _)
         have EE : Hid (Ex w0 wE) := Lib.hid (by rw [hwE]; exact hba0.alloc _)
         have BG : Hid (Bk 31 wE g t.lines rest) := Lib.hid (by rw [hwE]; exact hbk.alloc _)
         obtain ⟨gN, hgN⟩ : ∃ gN, gN = wa.heap.size := ⟨_, rfl⟩
         have hne : g ≠ gN := by omega
         have hgE : w0.heap.size ≤ gN := by have := hba0.size; omega
         rw [← hgN] at KN
         rw [← hwE, ← hgN]
         clear hwE hgN)
      | (obtain ⟨wE, hwE⟩ : ∃ wE : World, wE = (wa.setCell ⟨w0.heap.size, 0, none⟩ (.slice (some ⟨g, 0, none⟩) t.lines.length t.lines.length)).setCell ⟨w0.heap.size, 1, none⟩ (.int .i64 t.hand) := ⟨_, rfl⟩
         have hne : g ≠ w0.heap.size := by simp at hBg; omega
         have KN : Hid (Blk wE w0.heap.size 25 [.slice (some ⟨g, 0, none⟩) t.lines.length t.lines.length, .int .i64 t.hand]) := Lib.hid (by rw [hwE]; exact Blk.set (Blk.set hz 0 _) 1 _)
         have EE : Hid (Ex w0 wE) := Lib.hid (by rw [hwE]; exact (hba0.set (Nat.le_refl _) _).set (Nat.le_refl _) _)
         have BG : Hid (Bk 31 wE g t.lines rest) := Lib.hid (by rw [hwE]; exact (hbk.far hne _).far hne _)
         obtain ⟨gN, hgN⟩ : ∃ gN, gN = w0.heap.size := ⟨_, rfl⟩
         have hgE : w0.heap.size ≤ gN := by omega
         rw [← hgN] at KN hne
         rw [← hwE, ← hgN]
         clear hwE hgN hz hz0 hz1 hzf hzl hzn)
  all_goals
    have FI : Hid (Fr 31 wE w0.heap.size (some ⟨g, 0, none⟩) t.lines.length t.lines) := Lib.hid (Fr.close BG.out hBg' (by rw [Nat.sub_self, Nat.zero_mul]; exact Nat.zero_le _) (Nat.le_refl _) (by simp [maxLen]; omega))
    clear hfa hba hba0 hbk hrest hgl hBg
    obtain ⟨y, hy⟩ : ∃ y, t.lines[k]? = some y := ⟨_, List.getElem?_eq_getElem hk⟩
    have HY := Lib.hid hy
    obtain ⟨c0, c1, c2', c3, c4, c5⟩ := BG.out.line hy
    have hfz := BG.out.frozen
    have lg := Blk.lt BG.out
    obtain ⟨n0, n1⟩ := KN.out.c2
    have ln := KN.out.lt
    obtain ⟨l0, l1, l2, l3, l4, l5⟩ := (KL.out.ex EE.out).c6
    have ll := (KL.out.ex EE.out).lt
    obtain ⟨r0, r1⟩ := (KR.out.ex EE.out).c2
    have rfz := (KR.out.ex EE.out).frozen
    have lr := (KR.out.ex EE.out).lt
    have HLR := Lib.hid KR.out.lt
    have b1 : ¬ gc + 1 + 1 = g := by have := HLR.out; omega
    have b2 : ¬ g = gc + 1 + 1 := by have := HLR.out; omega
    have b3 : ¬ gc + 1 + 1 = gN := by have := HLR.out; omega
    have b4 : ¬ gN = gc + 1 + 1 := by have := HLR.out; omega
    have b5 : ¬ gc + 1 = g := by have := HLR.out; omega
    have b6 : ¬ gN = g := fun e => hne e.symm
    have hk0' : ¬ ((k : Int) < 0) := by omega
    have hkn : (k : Int) < (t.lines.length : Int) := by omega
    clear hy
    go_wp2
    have hwg : w.heap.size ≤ g := by have := E0.out.size; omega
    have hwr : w.heap.size ≤ gc + 1 + 1 := by have := HG.out; omega
    exact bodyPost_ret (v := .agg #[.slice (some ⟨g, 0, none⟩) t.lines.length t.lines.length, .int .i64 t.hand]) (by simp [results, Try.results59, go_sem, r0, r1]) rfl
      ⟨some ⟨g, 0, none⟩, rfl, Fr.close (((BG.out.set_line x hk).far b2 _).far b2 _) hwg (by rw [List.length_set, Nat.sub_self, Nat.zero_mul]; exact Nat.zero_le _) (by rw [List.length_set]; exact Nat.le_refl _) (by simp [maxLen]; omega),
        ((((((((E0.out.trans EE.out).set hwg _).set hwg _).set hwg _).set hwg _).set hwg _).set hwg _).set hwr _).set hwr _⟩
end Go.Proofs.Ytcaaficjcghheab
