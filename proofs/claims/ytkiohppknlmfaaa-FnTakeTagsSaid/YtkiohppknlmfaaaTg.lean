/- slices.Grow and slices.Concat over owners. -/
import Derived.Test.YtkiohppknlmfaaaTh
import Derived.Lib.AppendZeros
namespace Go.Proofs.Ytkiohppknlmfaaa
open Go.ChangeShapes Go.WideShapes Go.ChangeAt Go.RowKit
open Rec (sz cs)
set_option linter.unusedVariables false
set_option maxRecDepth 100000

theorem zeros_fr (w : World) (n cp B : Nat) (zc : Array Value) (hz : zc.size = 2) (hn : n ≤ cp) (hm : cp ≤ maxLen) (hB : B ≤ w.heap.size) :
    Fr 49 (w.alloc (.cells (Builtin.zeroCells zc n ++ Builtin.zeroCells zc (cp - n)) 49)).drew B (some ⟨w.heap.size, 0, none⟩) cp ([] : List OwnD) := by
  refine ⟨Nat.zero_le _, hm, .inr ⟨w.heap.size, (Builtin.zeroCells zc n ++ Builtin.zeroCells zc (cp - n)).toList, rfl, hB, ?_, ?_⟩⟩
  · exact Blk.drew (Blk.new_at w _ _ rfl)
  · simp only [Array.length_toList, Array.size_append, size_zeroCells, hz, List.length_nil]
    rw [← Nat.add_mul]
    refine Nat.mul_le_mul_right _ ?_
    omega

set_option maxHeartbeats 2000000 in
theorem growOwn_c (n : Nat) (w : World) (hn : n ≤ 2097152) :
    Calls Try.prog 78 #[.slice none 0 0, .int .i64 (n : Int)] w fun r w' => ∃ A' c', r = .returned (.slice A' 0 c') ∧ Fr 49 w' w.heap.size A' c' ([] : List OwnD) ∧ Ex w w' := by
  obtain ⟨i0, hi, hz0, hz1, hz2⟩ := info_parts infoOwn
  by_cases h0 : n = 0
  · subst h0
    go_enter Try.func78, Try.ntmps78
    go_wp2
    go_ret
    exact ⟨none, 0, rfl, Fr.none_ _ _ _ _, Ex.refl _⟩
  · have hp : (0 : Int) < (n : Int) := by omega
    have hp' : ¬ ((n : Int) < 0) := by omega
    have hge := grownCap_ge w n 0 49
    have hle := grownCap_le_maxLen w n 0 49 (by simp [maxLen]; omega)
    have hrun := Lib.run_append_nil_zeros (P := Try.prog) w 28 3 28 49 i0 _ .i64 .i64 Try.underlying28 Try.underlying3 hi hz0 n (by omega) (by omega) (by omega) (by rw [hz2]; omega)
    have hfr := zeros_fr w n (grownCap w n 0 49) w.heap.size #[.int .i64 0, .int .i64 0] rfl hge hle (Nat.le_refl _)
    generalize grownCap w n 0 49 = cp at hge hle hrun hfr
    have HF := Lib.hid hfr
    have HR := Lib.hid hrun
    have hcp : ¬ cp = 0 := by omega
    clear hfr hrun
    go_enter Try.func78, Try.ntmps78
    go_wp2_with (at_builtin; refine Lib.wpList_append_run _ rfl _ _ 28 3 rfl _ _ rfl rfl _ _ HR.out ?_)
    go_wp2
    go_ret
    exact ⟨_, cp, rfl, HF.out, ((Ex.refl w).alloc _).drew⟩

def catLen (n m k : Nat) : Nat := if k = 0 then 0 else if k = 1 then n else n + m
def catAt (xs ys : List OwnD) (k : Nat) : List OwnD := if k = 0 then [] else if k = 1 then xs else xs ++ ys
theorem catLen_le {n m k : Nat} (hn : n ≤ 1048576) (hm : m ≤ 1048576) : catLen n m k ≤ 2097152 := by
  unfold catLen
  repeat' split
  all_goals omega
theorem catAt_len {xs ys : List OwnD} {n m k : Nat} (h1 : n = xs.length) (h2 : m = ys.length) : (catAt xs ys k).length = catLen n m k := by
  subst h1 h2
  unfold catAt catLen
  split
  · rfl
  · split
    · rfl
    · simp

set_option maxHeartbeats 4000000 in
theorem concatOwn_c (gs n m : Nat) (A1 A2 : Option Addr) (c1 c2 : Nat) (xs ys : List OwnD) (w : World) (hg : Blk w gs 28 [.slice A1 n c1, .slice A2 m c2]) (hx : Rd w A1 xs) (hy : Rd w A2 ys) (h1 : n = xs.length) (h2 : m = ys.length) (hn : n ≤ 1048576) (hm : m ≤ 1048576) :
    Calls Try.prog 69 #[.slice (some ⟨gs, 0, none⟩) 2 2] w fun r w' => ∃ A' c', r = .returned (.slice A' (n + m) c') ∧ Fr 49 w' w.heap.size A' c' (xs ++ ys) ∧ Ex w w' := by
  obtain ⟨i0, hi, hz0, hz1, hz2⟩ := info_parts infoOwn
  have HX := Lib.hid hx
  have HY := Lib.hid hy
  have HG := Lib.hid hg
  have H1 := Lib.hid h1
  have H2 := Lib.hid h2
  have HL : Hid (∀ k, k ≤ 2 → catLen n m k ≤ 2097152) := Lib.hid (fun k hk => catLen_le hn hm)
  have HZ : Hid ((0 : Int) = ((catLen n m 0 : Nat) : Int)) := Lib.hid rfl
  clear hx hy hg h1 h2
  obtain ⟨q0, q1⟩ := HG.out.c2
  have lg := HG.out.lt
  go_enter Try.func69, Try.ntmps69
  go_wp2
  go_loopw [3, 11] (fun s i wr => ∃ k : Nat, k ≤ 2 ∧ i = .int .i64 k ∧ s = .int .i64 (catLen n m k : Nat) ∧ w = wr) (fun _ i _ => 2 - (intOf i).toNat)
  case atStart => exact ⟨0, by omega, rfl, rfl, rfl⟩
  case round =>
    obtain ⟨k, hk, rfl, rfl, rfl⟩ := hrel
    have hl1 := HL.out k hk
    match k, hk with
    | 0, _ =>
      have e : Hid (catLen n m 0 = 0) := Lib.hid rfl
      have e1 : Hid (catLen n m 1 = n) := Lib.hid rfl
      rw [e.out]
      have hnn : ¬ ((n : Int) < 0) := by omega
      go_wp2
      go_roundw
      case rel => exact ⟨1, by omega, rfl, by rw [e1.out], trivial⟩
      case measure => simp [intOf]
    | 1, _ =>
      have e : Hid (catLen n m 1 = n) := Lib.hid rfl
      have e1 : Hid (catLen n m 2 = n + m) := Lib.hid rfl
      rw [e.out]
      have hnn : ¬ ((n : Int) + (m : Int) < 0) := by omega
      go_wp2
      go_roundw
      case rel => exact ⟨2, by omega, rfl, by rw [e1.out]; simp, trivial⟩
      case measure => simp [intOf]
    | 2, _ =>
      clear q0 q1
      go_wp2_with fail
      refine (growOwn_c (catLen n m 2) _ hl1).mono ?_
      rintro r w1 ⟨A3, c3, rfl, hf3, hb3⟩
      have HF3 := Lib.hid hf3
      have HB3 := Lib.hid hb3
      clear hf3 hb3
      obtain ⟨q0, q1⟩ := (HG.out.ex HB3.out).c2
      have lg1 := (HG.out.ex HB3.out).lt
      go_wp2
      go_loopw [6, 27] (fun v i wr => ∃ (k : Nat) (A : Option Addr) (c : Nat), k ≤ 2 ∧ i = .int .i64 k ∧ v = .slice A (catLen n m k) c ∧ Fr 49 wr w.heap.size A c (catAt xs ys k) ∧ Ex w wr) (fun _ i _ => 2 - (intOf i).toNat)
      case atStart => exact ⟨0, A3, c3, by omega, rfl, rfl, HF3.out, HB3.out⟩
      case round =>
        obtain ⟨k, A, c, hk, rfl, rfl, hf, hb⟩ := hrel
        have HF := Lib.hid hf
        have HB := Lib.hid hb
        clear hf hb
        obtain ⟨q0, q1⟩ := (HG.out.ex HB.out).c2
        have lg2 := (HG.out.ex HB.out).lt
        have hsz := HB.out.size
        match k, hk with
        | 0, _ =>
          have hcl : Hid (catLen n m 0 = ([] : List OwnD).length) := Lib.hid rfl
          have h63 : catLen n m 0 + n ≤ maxLen := by simp [maxLen, catLen]; omega
          have hby : (catLen n m 0 + n) * 16 ≤ 140737488355328 := by simp [catLen]; omega
          go_wp2_with (at_builtin; refine wpList_append_fr (α := OwnD) rfl _ _ 28 rfl 49 i0 _ 16 w.heap.size Try.underlying28 hi hz0 hz1 hz2 rfl _ _ _ [] hcl.out rfl HF.out _ _ _ xs H1.out rfl (HX.out.ex HB.out) h63 hby hsz ?_)
          intro A6 c6 w6 ha
          have HA := Lib.hid ha
          clear ha q0 q1
          have e1 : Hid (catLen n m 0 + n = catLen n m 1) := Lib.hid (by simp [catLen])
          rw [e1.out]
          go_wp2
          go_roundw
          case rel => exact ⟨1, A6, c6, by omega, rfl, rfl, HA.out.fr, HB.out.grown HA.out.grown (fun g hg => by have := HF.out.row g hg; omega)⟩
          case measure => simp [intOf]
        | 1, _ =>
          have hcl : Hid (catLen n m 1 = xs.length) := Lib.hid (by rw [← H1.out]; rfl)
          have h63 : catLen n m 1 + m ≤ maxLen := by simp [maxLen, catLen]; omega
          have hby : (catLen n m 1 + m) * 16 ≤ 140737488355328 := by simp [catLen]; omega
          go_wp2_with (at_builtin; refine wpList_append_fr (α := OwnD) rfl _ _ 28 rfl 49 i0 _ 16 w.heap.size Try.underlying28 hi hz0 hz1 hz2 rfl _ _ _ xs hcl.out rfl HF.out _ _ _ ys H2.out rfl (HY.out.ex HB.out) h63 hby hsz ?_)
          intro A6 c6 w6 ha
          have HA := Lib.hid ha
          clear ha q0 q1
          have e1 : Hid (catLen n m 1 + m = catLen n m 2) := Lib.hid (by simp [catLen])
          rw [e1.out]
          go_wp2
          go_roundw
          case rel => exact ⟨2, A6, c6, by omega, rfl, rfl, HA.out.fr, HB.out.grown HA.out.grown (fun g hg => by have := HF.out.row g hg; omega)⟩
          case measure => simp [intOf]
        | 2, _ =>
          have e1 : Hid (catLen n m 2 = n + m) := Lib.hid rfl
          rw [e1.out]
          go_wp2
          go_ret
          exact ⟨A, c, rfl, HF.out, HB.out⟩
        | k + 3, h => omega
    | k + 3, h => omega
end Go.Proofs.Ytkiohppknlmfaaa
