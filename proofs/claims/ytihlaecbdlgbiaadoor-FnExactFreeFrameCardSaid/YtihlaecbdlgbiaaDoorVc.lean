/- The chain of a bucket, as the reference walks it. -/
import Derived.Test.YtihlaecbdlgbiaaDoorVk
namespace Go.Proofs.YtihlaecbdlgbiaaDoor
open Go.ChangeShapes Go.WideShapes Go.ChangeAt Go.RowKit
open Rec (sz cs)
set_option linter.unusedVariables false
set_option maxRecDepth 100000

def lenOf : Value → Nat
  | .slice _ n _ => n
  | _ => 0
def nums (l : List Nat) : List Int := l.map (fun (i : Nat) => (i : Int))
theorem nums_len (l : List Nat) : (nums l).length = l.length := by unfold nums; simp
theorem nums_snoc (l : List Nat) (i : Nat) : nums (l ++ [i]) = nums l ++ [(i : Int)] := by unfold nums; simp

/-- What the reference answers for the chain that begins at a0. -/
def ChainSaid (t : TableD) (a0 : Int) (w : World) (r : Ending) (w' : World) : Prop := ∃ (l : List Nat) (ok : Bool) (A : Option Addr) (c : Nat), r = .returned (.tuple #[.slice A l.length c, .bool ok]) ∧ (ok = true → Chain t.frames a0 l) ∧ (ok = false → ∀ l', ¬ Chain t.frames a0 l') ∧ l.length ≤ t.frames.length ∧ Rd w' A (nums l) ∧ Ex w w'

set_option maxHeartbeats 4000000 in
theorem l3Chain_c (t : TableD) (A : Option Addr) (c : Nat) (B : Option Addr) (d b : Nat) (a0 : Int) (w : World) (hx : Rd w A t.buckets) (hy : Rd w B t.frames) (hb : t.buckets[b]? = some a0) (hn : t.buckets.length ≤ 1048576) (hm : t.frames.length ≤ 1048576) :
    Calls Tryd.prog 50 #[.agg #[.slice A t.buckets.length c, .slice B t.frames.length d], .int .i64 b] w (ChainSaid t a0 w) := by
  obtain ⟨i0, hi, hz0, hz1, hz2⟩ := info_parts infoMInt
  have HX := Lib.hid hx
  have HY := Lib.hid hy
  have HBK := Lib.hid hb
  have hbl : b < t.buckets.length := getElem?_lt hb
  obtain ⟨n, hn1⟩ : ∃ n, n = t.frames.length := ⟨_, rfl⟩
  obtain ⟨m, hm1⟩ : ∃ m, m = t.buckets.length := ⟨_, rfl⟩
  have HN := Lib.hid hn1
  have HM := Lib.hid hm1
  rw [← hn1] at hm ⊢
  rw [← hm1] at hn hbl ⊢
  obtain ⟨b1, o1, a1, rfl, hb1, ha1, g0⟩ := HX.out.int (k := b) (by have := HM.out; omega)
  have e : a1 = a0 := by rw [hb] at ha1; injection ha1 with e; exact e.symm
  subst e
  clear hx hy hb hn1 hm1 ha1
  go_enter Tryd.func50, Tryd.ntmps50
  go_wp2
  clear g0
  go_loopw [6, 7] (fun q i wr => ∃ (pre : List Nat) (a : Int) (A' : Option Addr) (c' : Nat), i = .int .i64 a ∧ q = .slice A' pre.length c' ∧ Fr 3 wr (w.heap.size + 1) A' c' (nums pre) ∧ pre.length ≤ n ∧ Trail t.frames a1 pre a ∧ Blk wr w.heap.size 38 [.slice (some ⟨b1, o1, none⟩) m c, .slice B n d] ∧ Ex w wr ∧ w.heap.size + 1 ≤ wr.heap.size) (fun q _ _ => n + 1 - lenOf q)
  case atStart => exact ⟨[], a1, _, 0, rfl, rfl, Fr.none_ _ _ _ _, Nat.zero_le _, Trail.start _ _, (Blk.new _ _ _).alloc _, ((Ex.refl _).alloc _).alloc _, by simp⟩
  case round =>
    obtain ⟨pre, a, A', c', rfl, rfl, hf, hl, htr, hk, hex, hsz⟩ := hrel
    have HF := Lib.hid hf
    have HT := Lib.hid htr
    have KX := Lib.hid hk
    have HE := Lib.hid hex
    have HSZ := Lib.hid hsz
    clear hf htr hk hex hsz
    obtain ⟨q0, q1⟩ := KX.out.c2
    have jX := KX.out.lt
    by_cases ha : a = -1
    · subst ha
      go_wp2
      go_ret2
      exact ⟨pre, true, A', c', rfl, fun _ => HT.out.ends, (fun h => by cases h), by rw [← HN.out]; exact hl, HF.out.rd, HE.out⟩
    have hne : (a != -1) = true := by simpa using ha
    have HA := Lib.hid ha
    have hout : ∀ (w' : World), Ex wr w' → (∀ l', ¬ Chain t.frames a1 l') → ChainSaid t a1 w (.returned (.tuple #[.slice A' pre.length c', .bool false])) w' := fun w' he h => ⟨pre, false, A', c', rfl, (fun h => by cases h), fun _ => h, by rw [← HN.out]; exact hl, HF.out.rd.ex he, HE.out.trans he⟩
    have HOUT := Lib.hid hout
    clear hout
    by_cases h1 : a < 0
    · go_wp2
      go_ret2
      exact HOUT.out _ (Ex.refl _) (HT.out.bad (fun i f e _ => by omega) HA.out)
    obtain ⟨i, rfl⟩ := Int.eq_ofNat_of_zero_le (show 0 ≤ a by omega)
    by_cases h2 : n ≤ i
    · go_wp2
      go_ret2
      exact HOUT.out _ (Ex.refl _) (HT.out.bad (fun j f e hf => by have := getElem?_lt hf; have := HN.out; omega) HA.out)
    have h2' : i < n := by omega
    by_cases h3 : n ≤ pre.length
    · go_wp2
      go_ret2
      exact HOUT.out _ (Ex.refl _) (HT.out.long (by rw [← HN.out]; exact h3) HA.out)
    have h3' : pre.length < n := by omega
    obtain ⟨b2, o2, f, rfl, hb2, hfi, k0, k1, k2, k3, k4⟩ := (HY.out.ex HE.out).frame (k := i) (by have := HN.out; omega)
    have HFI := Lib.hid hfi
    clear hfi
    cases hu : f.used
    · rw [hu] at k0
      have HU := Lib.hid hu
      clear hu
      go_wp2
      go_ret2
      exact HOUT.out _ (Ex.refl _) (HT.out.bad (fun j g e hg => by
        have e2 : i = j := by omega
        subst e2
        rw [HFI.out] at hg
        injection hg with hg
        rw [← hg]; exact HU.out) HA.out)
    · rw [hu] at k0
      have HU := Lib.hid hu
      clear hu
      have h63 : pre.length + 1 ≤ maxLen := by simp [maxLen]; omega
      have hby : (pre.length + 1) * 8 ≤ 140737488355328 := by omega
      have HLN := Lib.hid (nums_len pre).symm
      have HXE : Hid (Rd wr (some ⟨b2, o2, none⟩) t.frames) := Lib.hid (HY.out.ex HE.out)
      go_wp2_with (at_builtin; refine wpList_append_fr (α := Int) rfl _ _ 22 rfl 3 i0 _ 8 (w.heap.size + 1) Tryd.underlying22 hi hz0 hz1 hz2 rfl A' c' pre.length (nums pre) HLN.out rfl (HF.out.alloc _) _ 1 1 [(i : Int)] rfl rfl (Bk.new wr 3 [(i : Int)]).rd h63 hby (Nat.le_trans HSZ.out (by simp)) ?_)
      intro A6 c6 w6 happ
      have HAP := Lib.hid happ
      have KX6 : Hid (Blk w6 w.heap.size 38 [.slice (some ⟨b1, o1, none⟩) m c, .slice (some ⟨b2, o2, none⟩) n d]) := Lib.hid ((KX.out.alloc _).grown HAP.out.grown (fun e => by have := HF.out.row _ e.symm; omega))
      have HE6 : Hid (Ex w w6) := Lib.hid ((HE.out.alloc _).grown HAP.out.grown (fun g hg => by have := HF.out.row _ hg; omega))
      have hw6 : wr.heap.size ≤ w6.heap.size := by have := HAP.out.grown.size; simp at this; omega
      clear happ q0 q1 jX k0 k1 k2 k3 k4
      obtain ⟨q0, q1⟩ := KX6.out.c2
      have jX := KX6.out.lt
      obtain ⟨b3, o3, g, e3, hb3, hgi, k0, k1, k2, k3, k4⟩ := (HY.out.ex HE6.out).frame (k := i) (by have := HN.out; omega)
      cases e3
      have e : g = f := by rw [HFI.out] at hgi; injection hgi with e; exact e.symm
      subst e
      clear hgi
      go_wp2
      go_roundw
      case rel => exact ⟨pre ++ [i], g.next, A6, c6, rfl, by simp, by rw [nums_snoc]; exact HAP.out.fr, by simp; omega, HT.out.step HFI.out HU.out, KX6.out, HE6.out, by have := HSZ.out; omega⟩
      case measure => simp [lenOf]; omega
end Go.Proofs.YtihlaecbdlgbiaaDoor
