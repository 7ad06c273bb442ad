/- Joined: Nt, Vk, Vc, Sk, Vs, Wf, Cx, Cz, Ca, Cy, Ck, Cm, Cn, Pl, Qa, We, Wg, Wh. -/
import Derived.IntWalk
import Derived.Deep.RegionHeld3
import Derived.BigQuiet
import Derived.Deep.AppendLies
import Derived.Deep.QuietTactic
import Derived.Test.YtbdlpbladpppjaaDoorPFnRehashOneJ1
/- NewTable of both sides. -/
namespace Go.Proofs.YtbdlpbladpppjaaDoor
open Go.ChangeShapes Go.WideShapes Go.ChangeAt Go.RowKit
open Rec (sz cs)
set_option linter.unusedVariables false
set_option maxRecDepth 100000

def freeF : FrameD := ⟨false, ⟨0, 0⟩, 0, -1⟩
def noTable : TableD := ⟨[], []⟩
def newTable (f b : Int) : TableD × Bool := if (1 ≤ f ∧ f ≤ 16) ∧ (1 ≤ b ∧ b ≤ 16) then (⟨List.replicate b.toNat (-1), List.replicate f.toNat freeF⟩, true) else (noTable, false)
/-- The program's variable of an unused frame reads as its text lays it. -/
structure FreeV (w : World) : Prop where
  lt : 0 < w.heap.size
  c0 : w.cell? ⟨0, 0, none⟩ = some (.bool false)
  c1 : w.cell? ⟨0, 1, none⟩ = some (.int .i64 0)
  c2 : w.cell? ⟨0, 2, none⟩ = some (.int .i64 0)
  c3 : w.cell? ⟨0, 3, none⟩ = some (.int .i64 0)
  c4 : w.cell? ⟨0, 4, none⟩ = some (.int .i64 (-1))
theorem FreeV.ex {w w' : World} (h : FreeV w) (k : Ex w w') : FreeV w' :=
  ⟨Nat.lt_of_lt_of_le h.lt k.size, (k.cell h.lt).trans h.c0, (k.cell h.lt).trans h.c1, (k.cell h.lt).trans h.c2, (k.cell h.lt).trans h.c3, (k.cell h.lt).trans h.c4⟩

theorem Rd.row_at {α : Type} [Rec α] (w : World) (E : TypeId) (xs : List α) {g : Nat} (hg : g = w.heap.size) : Rd (w.alloc (.cells (flat xs).toArray E)) (some ⟨g, 0, none⟩) xs := by
  subst hg; exact (Bk.new w E xs).rd

def bkB (n : Int) : Bool := decide (1 ≤ n ∧ n ≤ 16)
theorem bkB_iff {n : Int} : bkB n = true ↔ 1 ≤ n ∧ n ≤ 16 := by simp [bkB]
theorem bkB_not {n : Int} : bkB n = false ↔ ¬ (1 ≤ n ∧ n ≤ 16) := by simp [bkB]
set_option maxHeartbeats 400000 in
theorem bucketsValid_c (n : Int) (w : World) : Calls Tryd.prog 33 #[.int .i64 n] w fun r w' => r = .returned (.bool (bkB n)) ∧ w = w' := by
  by_cases h0 : 1 ≤ n
  · go_enter Tryd.func33, Tryd.ntmps33
    go_wp2
    go_ret
    exact ⟨ret_bool (by rw [Bool.eq_iff_iff, bkB_iff]; simp [h0]), rfl⟩
  · go_enter Tryd.func33, Tryd.ntmps33
    go_wp2
    go_ret
    exact ⟨ret_bool (by rw [Bool.eq_iff_iff, bkB_iff]; simp; omega), rfl⟩
set_option maxHeartbeats 400000 in
theorem l2Buckets_c (n : Int) (w : World) : Calls Tryd.prog 39 #[.int .i64 n] w fun r w' => r = .returned (.bool (bkB n)) ∧ w = w' := by
  by_cases h0 : 1 ≤ n
  · go_enter Tryd.func39, Tryd.ntmps39
    go_wp2
    go_ret
    exact ⟨ret_bool (by rw [Bool.eq_iff_iff, bkB_iff]; simp [h0]), rfl⟩
  · go_enter Tryd.func39, Tryd.ntmps39
    go_wp2
    go_ret
    exact ⟨ret_bool (by rw [Bool.eq_iff_iff, bkB_iff]; simp; omega), rfl⟩

set_option maxHeartbeats 4000000 in
theorem newTableS_c (f b : Int) (w : World) : Calls Tryd.prog 17 #[.int .i64 f, .int .i64 b] w
    fun r w' => ∃ A c B d, r = .returned (.tuple #[.agg #[.slice A (newTable f b).1.buckets.length c, .slice B (newTable f b).1.frames.length d], .bool (newTable f b).2]) ∧ Fr 3 w' w.heap.size A c (newTable f b).1.buckets ∧ Fr 47 w' w.heap.size B d (newTable f b).1.frames ∧ Ex w w' := by
  by_cases hbad : (1 ≤ f ∧ f ≤ 16) ∧ (1 ≤ b ∧ b ≤ 16)
  rotate_left
  · have e : newTable f b = (noTable, false) := if_neg hbad
    rw [e]
    clear e
    have fin : ∀ w' : World, Ex w w' → ∃ A c B d, (Ending.returned (.tuple #[.agg #[.slice none 0 0, .slice none 0 0], .bool false])) = .returned (.tuple #[.agg #[.slice A noTable.buckets.length c, .slice B noTable.frames.length d], .bool false]) ∧ Fr 3 w' w.heap.size A c noTable.buckets ∧ Fr 47 w' w.heap.size B d noTable.frames ∧ Ex w w' := fun w' h => ⟨none, 0, none, 0, rfl, Fr.none_ _ _ _ _, Fr.none_ _ _ _ _, h⟩
    have FIN := Lib.hid fin
    clear fin
    by_cases h1 : f < 1
    · go_enter Tryd.func17, Tryd.ntmps17
      go_wp2
      exact bodyPost_ret (v := .tuple #[.agg #[.slice none 0 0, .slice none 0 0], .bool false]) (by simp [results, Tryd.results17, go_sem]) rfl (FIN.out _ (by repeat' (first | with_reducible exact Ex.refl _ | with_reducible refine Ex.alloc ?_ _ | with_reducible refine Ex.drew ?_ | with_reducible refine Ex.put ?_ (by omega) _)))
    by_cases h2 : 16 < f
    · go_enter Tryd.func17, Tryd.ntmps17
      go_wp2
      exact bodyPost_ret (v := .tuple #[.agg #[.slice none 0 0, .slice none 0 0], .bool false]) (by simp [results, Tryd.results17, go_sem]) rfl (FIN.out _ (by repeat' (first | with_reducible exact Ex.refl _ | with_reducible refine Ex.alloc ?_ _ | with_reducible refine Ex.drew ?_ | with_reducible refine Ex.put ?_ (by omega) _)))
    have h3 : bkB b = false := bkB_not.2 (by omega)
    have CB := Lib.hid (fun w => l2Buckets_c b w)
    rw [h3] at CB
    have h1' : 1 ≤ f := by omega
    have h2' : f ≤ 16 := by omega
    clear h3 hbad
    go_enter Tryd.func17, Tryd.ntmps17
    go_wp2_with fail
    refine (CB.out _).mono ?_
    rintro r w1 ⟨rfl, rfl⟩
    go_wp2
    exact bodyPost_ret (v := .tuple #[.agg #[.slice none 0 0, .slice none 0 0], .bool false]) (by simp [results, Tryd.results17, go_sem]) rfl (FIN.out _ (by repeat' (first | with_reducible exact Ex.refl _ | with_reducible refine Ex.alloc ?_ _ | with_reducible refine Ex.drew ?_ | with_reducible refine Ex.put ?_ (by omega) _)))
  have e : newTable f b = (⟨List.replicate b.toNat (-1), List.replicate f.toNat freeF⟩, true) := if_pos hbad
  rw [e]
  clear e
  obtain ⟨n, rfl⟩ := Int.eq_ofNat_of_zero_le (show 0 ≤ f by omega)
  obtain ⟨m, rfl⟩ := Int.eq_ofNat_of_zero_le (show 0 ≤ b by omega)
  have hn1 : 1 ≤ n := by omega
  have hn2 : n ≤ 16 := by omega
  have hm1 : 1 ≤ m := by omega
  have hm2 : m ≤ 16 := by omega
  simp only [Int.toNat_natCast]
  have hb3 : bkB (m : Int) = true := bkB_iff.2 (by omega)
  have CB := Lib.hid (fun w => l2Buckets_c (m : Int) w)
  rw [hb3] at CB
  clear hb3 hbad
  obtain ⟨i0, hi, hz0, hz1, hz2⟩ := info_parts infoMInt
  obtain ⟨j0, hj, hy0, hy1, hy2⟩ := info_parts infoMFrame
  have HLB : Hid ((List.replicate m (-1 : Int)).length = m) := Lib.hid List.length_replicate
  have HLF : Hid ((List.replicate n freeF).length = n) := Lib.hid List.length_replicate
  go_enter Tryd.func17, Tryd.ntmps17
  go_wp2_with fail
  refine (CB.out _).mono ?_
  rintro r w1 ⟨rfl, rfl⟩
  go_wp2
  obtain ⟨w0, hw0⟩ : ∃ w0 : World, w0 = (w.alloc (.cells #[.slice none 0 0, .slice none 0 0] 26)).alloc (.cells #[.slice none 0 0, .slice none 0 0] 26) := ⟨_, rfl⟩
  obtain ⟨gR, hgR⟩ : ∃ g : Nat, g = w.heap.size := ⟨_, rfl⟩
  obtain ⟨gO, hgO⟩ : ∃ g : Nat, g = w.heap.size + 1 := ⟨_, rfl⟩
  have KR0 : Hid (Blk w0 gR 26 [.slice none 0 0, .slice none 0 0]) := Lib.hid (by rw [hw0, hgR]; exact (Blk.new w _ _).alloc _)
  have KO0 : Hid (Blk w0 gO 26 [.slice none 0 0, .slice none 0 0]) := Lib.hid (by rw [hw0, hgO]; exact Blk.new_at _ _ _ (by simp))
  have E0 : Hid (Ex w w0) := Lib.hid (by rw [hw0]; exact ((Ex.refl w).alloc _).alloc _)
  have HG : Hid (gR = w.heap.size ∧ gO = w.heap.size + 1) := Lib.hid ⟨hgR, hgO⟩
  have HS0 : Hid (w.heap.size + 2 ≤ w0.heap.size) := Lib.hid (by rw [hw0]; simp)
  rw [← hw0]
  try rw [← hgO]
  try rw [← hgR]
  have hRO : ¬ gR = gO := by omega
  have hOR : ¬ gO = gR := by omega
  clear hw0 hgR hgO
  go_loopw [7] (fun i wr => ∃ (k : Nat) (A : Option Addr) (c : Nat), k ≤ m ∧ i = .int .i64 k ∧ Blk wr gO 26 [.slice A k c, .slice none 0 0] ∧ Blk wr gR 26 [.slice none 0 0, .slice none 0 0] ∧ Fr 3 wr (w.heap.size + 2) A c (List.replicate k (-1 : Int)) ∧ Ex w wr ∧ w.heap.size + 2 ≤ wr.heap.size) (fun i _ => m - (intOf i).toNat)
  case atStart => exact ⟨0, none, 0, Nat.zero_le _, rfl, KO0.out, KR0.out, Fr.none_ _ _ _ _, E0.out, HS0.out⟩
  case round =>
    obtain ⟨k, A, c, hk, rfl, hko, hkr, hf, hex, hsz⟩ := hrel
    have KO := Lib.hid hko
    have KR := Lib.hid hkr
    have HF := Lib.hid hf
    have HE := Lib.hid hex
    have HSZ := Lib.hid hsz
    clear hko hkr hf hex hsz
    by_cases hlt : k < m
    · obtain ⟨q0, q1⟩ := KO.out.c2
      have jO := KO.out.lt
      have zO := KO.out.frozen
      have h63 : k + 1 ≤ maxLen := by simp [maxLen]; omega
      have hby : (k + 1) * 8 ≤ 140737488355328 := by omega
      have hlk : k = (List.replicate k (-1 : Int)).length := List.length_replicate.symm
      have HLK := Lib.hid hlk
      clear hlk
      go_wp2_with (at_builtin; refine wpList_append_fr (α := Int) rfl _ _ 23 rfl 3 i0 _ 8 (w.heap.size + 2) Tryd.underlying23 hi hz0 hz1 hz2 rfl A c k (List.replicate k (-1 : Int)) HLK.out rfl (HF.out.alloc _) _ 1 1 [(-1 : Int)] rfl rfl (Bk.new wr 3 [(-1 : Int)]).rd h63 hby (Nat.le_trans HSZ.out (by simp)) ?_)
      intro A6 c6 w6 ha
      have HA := Lib.hid ha
      have KO6 : Hid (Blk w6 gO 26 [.slice A k c, .slice none 0 0]) := Lib.hid ((KO.out.alloc _).grown HA.out.grown (fun e => by have := HF.out.row _ e.symm; have := HG.out; omega))
      have KR6 : Hid (Blk w6 gR 26 [.slice none 0 0, .slice none 0 0]) := Lib.hid ((KR.out.alloc _).grown HA.out.grown (fun e => by have := HF.out.row _ e.symm; have := HG.out; omega))
      have HE6 : Hid (Ex w w6) := Lib.hid ((HE.out.alloc _).grown HA.out.grown (fun g hg => by have := HF.out.row _ hg; omega))
      have HR6 := Lib.hid HA.out.fr.row
      have hw6 : wr.heap.size ≤ w6.heap.size := by have := HA.out.grown.size; simp at this; omega
      clear ha q0 q1 jO zO
      obtain ⟨q0, q1⟩ := KO6.out.c2
      have jO := KO6.out.lt
      have zO := KO6.out.frozen
      go_wp2
      go_roundw
      case rel => exact ⟨k + 1, A6, c6, by omega, by go_num, KO6.out.set 0 _, KR6.out.far (fun e => hRO e) _, by rw [List.replicate_succ']; exact HA.out.fr.put (fun b hb => by have := HR6.out b hb; have := HG.out; omega) _, HE6.out.put (by have := HG.out; omega) _, by have := HSZ.out; simp; omega⟩
      case measure => simp [intOf]; omega
    · obtain rfl : k = m := by omega
      have HWA := Lib.hid HF.out.row
      clear KO0 KR0 E0 HS0
      go_wp2
      go_loopw [8] (fun i wr' => ∃ (j : Nat) (B : Option Addr) (d : Nat), j ≤ n ∧ i = .int .i64 j ∧ Blk wr' gO 26 [.slice A k c, .slice B j d] ∧ Blk wr' gR 26 [.slice none 0 0, .slice none 0 0] ∧ Fr 3 wr' (w.heap.size + 2) A c (List.replicate k (-1 : Int)) ∧ Fr 47 wr' (w.heap.size + 2) B d (List.replicate j freeF) ∧ (∀ b, rowOf A c = some b → rowOf B d ≠ some b) ∧ Ex w wr' ∧ w.heap.size + 2 ≤ wr'.heap.size) (fun i _ => n - (intOf i).toNat)
      case atStart => exact ⟨0, none, 0, Nat.zero_le _, rfl, KO.out, KR.out, HF.out, Fr.none_ _ _ _ _, fun b hb => by simp [rowOf], HE.out, HSZ.out⟩
      case round =>
        clear KO KR HF HE HSZ HWA
        obtain ⟨j, B, d, hj2, rfl, hko, hkr, hf, hfb, hab, hex, hsz⟩ := hrel
        have KO := Lib.hid hko
        have KR := Lib.hid hkr
        have HF := Lib.hid hf
        have HFB := Lib.hid hfb
        have HAB := Lib.hid hab
        have HE := Lib.hid hex
        have HSZ := Lib.hid hsz
        clear hko hkr hf hfb hab hex hsz
        obtain ⟨q0, q1⟩ := KO.out.c2
        have jO := KO.out.lt
        have zO := KO.out.frozen
        by_cases hlt : j < n
        · have h63 : j + 1 ≤ maxLen := by simp [maxLen]; omega
          have hby : (j + 1) * 40 ≤ 140737488355328 := by omega
          have hlk : j = (List.replicate j freeF).length := List.length_replicate.symm
          have HLK := Lib.hid hlk
          clear hlk
          rename_i wr'
          go_wp2_with (at_builtin; refine wpList_append_fr (α := FrameD) rfl _ _ 24 rfl 47 j0 _ 40 (w.heap.size + 2) Tryd.underlying24 hj hy0 hy1 hy2 rfl B d j (List.replicate j freeF) HLK.out rfl (HFB.out.alloc _) _ 1 1 [freeF] rfl rfl (Bk.new _ 47 [freeF]).rd h63 hby (Nat.le_trans HSZ.out (by simp)) ?_)
          intro A6 c6 w6 ha
          have HA := Lib.hid ha
          have KO6 : Hid (Blk w6 gO 26 [.slice A k c, .slice B j d]) := Lib.hid ((KO.out.alloc _).grown HA.out.grown (fun e => by have := HFB.out.row _ e.symm; have := HG.out; omega))
          have KR6 : Hid (Blk w6 gR 26 [.slice none 0 0, .slice none 0 0]) := Lib.hid ((KR.out.alloc _).grown HA.out.grown (fun e => by have := HFB.out.row _ e.symm; have := HG.out; omega))
          have HE6 : Hid (Ex w w6) := Lib.hid ((HE.out.alloc _).grown HA.out.grown (fun g hg => by have := HFB.out.row _ hg; omega))
          have HF6 : Hid (Fr 3 w6 (w.heap.size + 2) A c (List.replicate k (-1 : Int))) := Lib.hid ((HF.out.alloc _).grown HA.out.grown (fun b hb => by
            by_cases hc : c = 0
            · exact .inl hc
            · refine .inr fun e => ?_
              subst e
              exact HAB.out b (rowOf_some (by omega)) hb))
          have HAB6 : Hid (∀ b, rowOf A c = some b → rowOf A6 c6 ≠ some b) := Lib.hid (fun b hb e => by
            rcases HA.out.row with h | h
            · rw [h] at e; exact HAB.out b hb e
            · rw [h] at e; injection e with e; have := HF.out.row b hb; simp at e; omega)
          have HR6 := Lib.hid HA.out.fr.row
          have HRA := Lib.hid HF6.out.row
          have hw6 := HA.out.grown.size
          simp at hw6
          clear ha q0 q1 jO zO
          obtain ⟨q0, q1⟩ := KO6.out.c2
          have jO := KO6.out.lt
          have zO := KO6.out.frozen
          go_wp2
          go_roundw
          case rel => exact ⟨j + 1, A6, c6, by omega, by go_num, KO6.out.set 1 _, KR6.out.far (fun e => hRO e) _, HF6.out.put (fun b hb => by have := HRA.out b hb; have := HG.out; omega) _, by rw [List.replicate_succ']; exact HA.out.fr.put (fun b hb => by have := HR6.out b hb; have := HG.out; omega) _, HAB6.out, HE6.out.put (by have := HG.out; omega) _, by have := HSZ.out; simp; omega⟩
          case measure => simp [intOf]; omega
        · obtain rfl : j = n := by omega
          obtain ⟨r0, r1⟩ := KR.out.c2
          have jR := KR.out.lt
          have zR := KR.out.frozen
          have HRA := Lib.hid HF.out.row
          have HRB := Lib.hid HFB.out.row
          go_wp2
          exact bodyPost_ret (v := .tuple #[.agg #[.slice A k c, .slice B j d], .bool true]) (by simp [results, Tryd.results17, go_sem, r0, r1]) rfl
            ⟨A, c, B, d, by rw [HLB.out, HLF.out], Fr.mono (B := w.heap.size + 2) (by repeat' (first | with_reducible exact HF.out | with_reducible refine Fr.put ?_ (fun b hb => by have := HRA.out b hb; have := HG.out; omega) _)) (by omega), Fr.mono (B := w.heap.size + 2) (by repeat' (first | with_reducible exact HFB.out | with_reducible refine Fr.put ?_ (fun b hb => by have := HRB.out b hb; have := HG.out; omega) _)) (by omega), (HE.out.put (by have := HG.out; omega) _).put (by have := HG.out; omega) _⟩

/-- A new table: its two rows are the call's own, and lie apart. -/
def MadeTable (q : TableD × Bool) (w : World) (r : Ending) (w' : World) : Prop := ∃ A c B d mi, r = .returned (.tuple #[.agg #[.slice A q.1.buckets.length c, .slice B q.1.frames.length d], .bool q.2]) ∧ Fr 3 w' w.heap.size A c q.1.buckets ∧ Fr 47 w' mi B d q.1.frames ∧ (∀ x, rowOf A c = some x → x < mi) ∧ w.heap.size ≤ mi ∧ mi ≤ w'.heap.size ∧ Ex w w'

set_option maxHeartbeats 8000000 in
theorem newTableI_c (f b : Int) (w : World) (hv : FreeV w) : Calls Tryd.prog 15 #[.int .i64 f, .int .i64 b] w (MadeTable (newTable f b) w) := by
  by_cases hbad : (1 ≤ f ∧ f ≤ 16) ∧ (1 ≤ b ∧ b ≤ 16)
  rotate_left
  · have e : newTable f b = (noTable, false) := if_neg hbad
    rw [e]
    clear e
    have fin : ∀ w' : World, Ex w w' → MadeTable (noTable, false) w (.returned (.tuple #[.agg #[.slice none 0 0, .slice none 0 0], .bool false])) w' := fun w' h => ⟨none, 0, none, 0, w.heap.size, rfl, Fr.none_ _ _ _ _, Fr.none_ _ _ _ _, fun x e => by simp [rowOf] at e, Nat.le_refl _, h.size, h⟩
    have FIN := Lib.hid fin
    clear fin hv
    by_cases h1 : f < 1
    · go_enter Tryd.func15, Tryd.ntmps15
      go_wp2
      exact bodyPost_ret (v := .tuple #[.agg #[.slice none 0 0, .slice none 0 0], .bool false]) (by simp [results, Tryd.results15, go_sem]) rfl (FIN.out _ (by repeat' (first | with_reducible exact Ex.refl _ | with_reducible refine Ex.alloc ?_ _ | with_reducible refine Ex.drew ?_ | with_reducible refine Ex.put ?_ (by omega) _)))
    by_cases h2 : 16 < f
    · go_enter Tryd.func15, Tryd.ntmps15
      go_wp2
      exact bodyPost_ret (v := .tuple #[.agg #[.slice none 0 0, .slice none 0 0], .bool false]) (by simp [results, Tryd.results15, go_sem]) rfl (FIN.out _ (by repeat' (first | with_reducible exact Ex.refl _ | with_reducible refine Ex.alloc ?_ _ | with_reducible refine Ex.drew ?_ | with_reducible refine Ex.put ?_ (by omega) _)))
    have h3 : bkB b = false := bkB_not.2 (by omega)
    have CB := Lib.hid (fun w => bucketsValid_c b w)
    rw [h3] at CB
    have h1' : 1 ≤ f := by omega
    have h2' : f ≤ 16 := by omega
    clear h3 hbad
    go_enter Tryd.func15, Tryd.ntmps15
    go_wp2_with fail
    refine (CB.out _).mono ?_
    rintro r w1 ⟨rfl, rfl⟩
    go_wp2
    exact bodyPost_ret (v := .tuple #[.agg #[.slice none 0 0, .slice none 0 0], .bool false]) (by simp [results, Tryd.results15, go_sem]) rfl (FIN.out _ (by repeat' (first | with_reducible exact Ex.refl _ | with_reducible refine Ex.alloc ?_ _ | with_reducible refine Ex.drew ?_ | with_reducible refine Ex.put ?_ (by omega) _)))
  have e : newTable f b = (⟨List.replicate b.toNat (-1), List.replicate f.toNat freeF⟩, true) := if_pos hbad
  rw [e]
  clear e
  obtain ⟨n, rfl⟩ := Int.eq_ofNat_of_zero_le (show 0 ≤ f by omega)
  obtain ⟨m, rfl⟩ := Int.eq_ofNat_of_zero_le (show 0 ≤ b by omega)
  have hn1 : 1 ≤ n := by omega
  have hn2 : n ≤ 16 := by omega
  have hm1 : 1 ≤ m := by omega
  have hm2 : m ≤ 16 := by omega
  simp only [Int.toNat_natCast]
  have hb3 : bkB (m : Int) = true := bkB_iff.2 (by omega)
  have CB := Lib.hid (fun w => bucketsValid_c (m : Int) w)
  rw [hb3] at CB
  have HLB : Hid ((List.replicate m (-1 : Int)).length = m) := Lib.hid List.length_replicate
  have HLF : Hid ((List.replicate n freeF).length = n) := Lib.hid List.length_replicate
  have CR1 := Lib.hid (fun (A : Option Addr) w' h => repeatInt_c A (-1) m w' h hm1 hm2)
  have CR2 := Lib.hid (fun (A : Option Addr) w' h => repeatFrame_c A freeF n w' h hn1 hn2)
  have FK : Hid (∀ w', Ex w w' → (w'.cell? ⟨0, 0, none⟩ = some (.bool false) ∧ w'.cell? ⟨0, 1, none⟩ = some (.int .i64 0) ∧ w'.cell? ⟨0, 2, none⟩ = some (.int .i64 0) ∧ w'.cell? ⟨0, 3, none⟩ = some (.int .i64 0) ∧ w'.cell? ⟨0, 4, none⟩ = some (.int .i64 (-1)))) := Lib.hid (fun w' h => by
    have k := hv.ex h
    exact ⟨k.c0, k.c1, k.c2, k.c3, k.c4⟩)
  have h0w : 0 < w.heap.size := hv.lt
  clear hb3 hbad hv
  go_enter Tryd.func15, Tryd.ntmps15
  go_wp2_with fail
  refine (CB.out _).mono ?_
  rintro r w1 ⟨rfl, rfl⟩
  go_wp2_with fail
  obtain ⟨w0, hw0⟩ : ∃ w0 : World, w0 = w.alloc (.cells #[.slice none 0 0, .slice none 0 0] 26) := ⟨_, rfl⟩
  obtain ⟨gR, hgR⟩ : ∃ g : Nat, g = w.heap.size := ⟨_, rfl⟩
  have KR0 : Hid (Blk w0 gR 26 [.slice none 0 0, .slice none 0 0]) := Lib.hid (by rw [hw0, hgR]; exact Blk.new w _ _)
  have E0 : Hid (Ex w w0) := Lib.hid (by rw [hw0]; exact (Ex.refl w).alloc _)
  have hgw : w.heap.size ≤ gR := by omega
  have HGR : Hid (gR = w.heap.size) := Lib.hid hgR
  have HW0 : Hid (w0.heap.size = w.heap.size + 1) := Lib.hid (by rw [hw0]; simp)
  rw [← hw0]
  try rw [← hgR]
  clear hw0 hgR
  go_region_held3 (fun w' => (w'.cell? ⟨0, 0, none⟩ = some (.bool false) ∧ w'.cell? ⟨0, 1, none⟩ = some (.int .i64 0) ∧ w'.cell? ⟨0, 2, none⟩ = some (.int .i64 0) ∧ w'.cell? ⟨0, 3, none⟩ = some (.int .i64 0) ∧ w'.cell? ⟨0, 4, none⟩ = some (.int .i64 (-1)))) ((refine FK.out _ ?_; repeat' (first | with_reducible exact E0.out | with_reducible exact E0.out.trans hxb | with_reducible exact E0.out.trans hxa | with_reducible refine Ex.alloc ?_ _ | with_reducible refine Ex.drew ?_ | with_reducible refine Ex.put ?_ hgw _))) (first | (go_at_call 37; (refine (CR1.out _ _ ?_).mono ?_); (focus (first | (refine Rd.row_at _ 3 [(-1 : Int)] ?_; simp; done) | (refine Rd.alloc (Rd.row_at _ 3 [(-1 : Int)] ?_) _; simp; done) | (refine Rd.drew (Rd.row_at _ 3 [(-1 : Int)] ?_); simp; done) | (refine Rd.drew (Rd.alloc (Rd.row_at _ 3 [(-1 : Int)] ?_) _); simp; done))); rintro r wa ⟨Aa, rfl, hfa, hba⟩; have hxa : Ex w0 wa := Ex.trans (by repeat' (first | with_reducible exact Ex.refl _ | with_reducible refine Ex.alloc ?_ _ | with_reducible refine Ex.drew ?_)) hba) | (go_at_call 38; (refine (CR2.out _ _ ?_).mono ?_); (focus (first | (refine Rd.row_at _ 47 [freeF] ?_; simp; done) | (refine Rd.ex (Rd.row_at _ 47 [freeF] ?_) hba; simp; done) | (refine Rd.ex (Rd.alloc (Rd.row_at _ 47 [freeF] ?_) _) hba; simp; done) | (refine Rd.ex (Rd.drew (Rd.row_at _ 47 [freeF] ?_)) hba; simp; done) | (refine Rd.ex (Rd.drew (Rd.alloc (Rd.row_at _ 47 [freeF] ?_) _)) hba; simp; done))); rintro r wb ⟨Ab, rfl, hfb, hbb⟩; have hbw : Ex wa wb := Ex.trans (by repeat' (first | with_reducible exact Ex.refl _ | with_reducible refine Ex.alloc ?_ _ | with_reducible refine Ex.drew ?_)) hbb; have hxb : Ex w0 wb := Ex.trans hxa hbw; have kb := KR0.out.ex hxb; obtain ⟨kb0, kb1⟩ := kb.c2; have kbf := kb.frozen; have kbl := kb.lt))
  all_goals
    have hfa1 : Fr 3 wa w0.heap.size Aa m (List.replicate m (-1 : Int)) := Fr.mono hfa (by first | exact Nat.le_refl _ | (simp; done) | (simp; omega))
    have hfb1 : Fr 47 wb wa.heap.size Ab n (List.replicate n freeF) := Fr.mono hfb (by first | exact Nat.le_refl _ | (simp; done) | (simp; omega))
    have hra := hfa1.row
    have hrb := hfb1.row
    have HFA := Lib.hid (hfa1.ex hbw)
    have HFB := Lib.hid hfb1
    have HRA := Lib.hid hra
    have HRB := Lib.hid hrb
    have hsa := hxa.size
    have hsb := hbw.size
    have HXB := Lib.hid hxb
    clear hfa hfb hfa1 hfb1 hra hrb hba hbb hbw hxa hxb
    go_wp2
    exact bodyPost_ret (v := .tuple #[.agg #[.slice Aa m m, .slice Ab n n], .bool true]) (by simp [results, Tryd.results15, go_sem, kb0, kb1]) rfl
      ⟨Aa, m, Ab, n, wa.heap.size, by rw [HLB.out, HLF.out], Fr.mono (B := w0.heap.size) (by repeat' (first | with_reducible exact HFA.out | with_reducible refine Fr.put ?_ (fun b hb => by have := HRA.out b hb; have := HGR.out; have := HW0.out; omega) _)) (by have := HW0.out; omega), (by repeat' (first | with_reducible exact HFB.out | with_reducible refine Fr.put ?_ (fun b hb => by have := HRB.out b hb; have := HGR.out; have := HW0.out; omega) _)), fun b hb => (HRA.out b hb).2, by have := HW0.out; omega, by simp; omega, ((E0.out.trans HXB.out).put hgw _).put hgw _⟩
end Go.Proofs.YtbdlpbladpppjaaDoor
/- Keys and hashes, of both sides. -/
namespace Go.Proofs.YtbdlpbladpppjaaDoor
open Go.ChangeShapes Go.WideShapes Go.ChangeAt Go.RowKit
set_option linter.unusedVariables false
set_option maxRecDepth 100000

def keyB (k : KeyD) : Bool := inB k.space 16 && inB k.page 256
theorem keyB_iff {k : KeyD} : keyB k = true ↔ keyOk k := by unfold keyB keyOk inB; simp

set_option maxHeartbeats 1000000 in
theorem keyS_c (k : KeyD) (w : World) : Calls Tryd.prog 46 #[.agg #[.int .i64 k.space, .int .i64 k.page]] w fun r w' => r = .returned (.bool (keyB k)) ∧ Ex w w' := by
  unfold keyB
  have C1 := Lib.hid (fun w => l1Space_c k.space w)
  have C2 := Lib.hid (fun w => l1Page_c k.page w)
  generalize inB k.space 16 = b1 at C1 ⊢
  generalize inB k.page 256 = b2 at C2 ⊢
  cases b1
  · go_enter Tryd.func46, Tryd.ntmps46
    go_wp2_with fail
    refine (C1.out _).mono ?_
    rintro r w1 ⟨rfl, rfl⟩
    go_wp2
    go_ret
    exact ⟨rfl, (by repeat' (first | with_reducible exact Ex.refl _ | with_reducible refine Ex.alloc ?_ _ | with_reducible refine Ex.drew ?_ | with_reducible refine Ex.put ?_ (by omega) _))⟩
  · go_enter Tryd.func46, Tryd.ntmps46
    go_wp2_with fail
    refine (C1.out _).mono ?_
    rintro r w1 ⟨rfl, rfl⟩
    go_wp2_with fail
    refine (C2.out _).mono ?_
    rintro r w1 ⟨rfl, rfl⟩
    go_wp2
    go_ret
    exact ⟨rfl, (by repeat' (first | with_reducible exact Ex.refl _ | with_reducible refine Ex.alloc ?_ _ | with_reducible refine Ex.drew ?_ | with_reducible refine Ex.put ?_ (by omega) _))⟩
set_option maxHeartbeats 1000000 in
theorem keyI_c (k : KeyD) (w : World) : Calls Tryd.prog 34 #[.agg #[.int .i64 k.space, .int .i64 k.page]] w fun r w' => r = .returned (.bool (keyB k)) ∧ Ex w w' := by
  unfold keyB
  have C1 := Lib.hid (fun w => within_c k.space 16 w)
  have C2 := Lib.hid (fun w => within_c k.page 256 w)
  generalize inB k.space 16 = b1 at C1 ⊢
  generalize inB k.page 256 = b2 at C2 ⊢
  cases b1
  · go_enter Tryd.func34, Tryd.ntmps34
    go_wp2_with fail
    refine (C1.out _).mono ?_
    rintro r w1 ⟨rfl, rfl⟩
    go_wp2
    go_ret
    exact ⟨rfl, (by repeat' (first | with_reducible exact Ex.refl _ | with_reducible refine Ex.alloc ?_ _ | with_reducible refine Ex.drew ?_ | with_reducible refine Ex.put ?_ (by omega) _))⟩
  · go_enter Tryd.func34, Tryd.ntmps34
    go_wp2_with fail
    refine (C1.out _).mono ?_
    rintro r w1 ⟨rfl, rfl⟩
    go_wp2_with fail
    refine (C2.out _).mono ?_
    rintro r w1 ⟨rfl, rfl⟩
    go_wp2
    go_ret
    exact ⟨rfl, (by repeat' (first | with_reducible exact Ex.refl _ | with_reducible refine Ex.alloc ?_ _ | with_reducible refine Ex.drew ?_ | with_reducible refine Ex.put ?_ (by omega) _))⟩

theorem hash_parts {s p n : Int} (h1 : 0 ≤ s) (h2 : s < 16) (h3 : 0 ≤ p) (h4 : p < 256) (hn : 1 ≤ n) (hm : n ≤ 16) : 0 ≤ (s * 256 + p) * 2654435761 % 4294967296 * n ∧ (s * 256 + p) * 2654435761 % 4294967296 * n ≤ 68719476736 ∧ 0 ≤ (s * 256 + p) * 2654435761 % 4294967296 * n / 4294967296 ∧ (s * 256 + p) * 2654435761 % 4294967296 * n / 4294967296 ≤ 16 := by
  obtain ⟨x, hx⟩ : ∃ x, x = (s * 256 + p) * 2654435761 % 4294967296 := ⟨_, rfl⟩
  rw [← hx]
  have g1 : 0 ≤ x ∧ x ≤ 4294967296 := by omega
  have g2 : 0 ≤ x * n := Int.mul_nonneg g1.1 (by omega)
  have g3 : x * n ≤ 4294967296 * 16 := Int.mul_le_mul g1.2 hm (by omega) (by omega)
  obtain ⟨y, hy⟩ : ∃ y, y = x * n := ⟨_, rfl⟩
  rw [← hy] at g2 g3 ⊢
  omega
set_option maxHeartbeats 1000000 in
theorem hashS_c (k : KeyD) (n : Int) (w : World) (hk : keyOk k) (hn : 1 ≤ n) (hm : n ≤ 16) : Calls Tryd.prog 42 #[.agg #[.int .i64 k.space, .int .i64 k.page], .int .i64 n] w fun r w' => r = .returned (.int .i64 (hashK k n)) ∧ Ex w w' := by
  obtain ⟨⟨h1, h2⟩, h3, h4⟩ := hk
  obtain ⟨s, p⟩ := k
  dsimp only at h1 h2 h3 h4
  go_enter Tryd.func42, Tryd.ntmps42
  go_wp2
  go_ret
  obtain ⟨g1, g2, g3, g4⟩ := hash_parts h1 h2 h3 h4 hn hm
  refine ⟨ret_int ?_, (by repeat' (first | with_reducible exact Ex.refl _ | with_reducible refine Ex.alloc ?_ _ | with_reducible refine Ex.drew ?_ | with_reducible refine Ex.put ?_ (by omega) _))⟩
  rw [IntWalk.wrap64_in ((s * 256 + p) * 2654435761 % 4294967296 * n) ⟨by omega, by omega⟩, Int.tdiv_eq_ediv_of_nonneg g1, IntWalk.wrap64_in _ ⟨by omega, by omega⟩]
  rfl
set_option maxHeartbeats 1000000 in
theorem hashI_c (k : KeyD) (n : Int) (w : World) (hk : keyOk k) (hn : 1 ≤ n) (hm : n ≤ 16) : Calls Tryd.prog 36 #[.agg #[.int .i64 k.space, .int .i64 k.page], .int .i64 n] w fun r w' => r = .returned (.int .i64 (hashK k n)) ∧ Ex w w' := by
  obtain ⟨⟨h1, h2⟩, h3, h4⟩ := hk
  obtain ⟨s, p⟩ := k
  dsimp only at h1 h2 h3 h4
  go_enter Tryd.func36, Tryd.ntmps36
  go_wp2
  go_ret
  obtain ⟨g1, g2, g3, g4⟩ := hash_parts h1 h2 h3 h4 hn hm
  refine ⟨ret_int ?_, (by repeat' (first | with_reducible exact Ex.refl _ | with_reducible refine Ex.alloc ?_ _ | with_reducible refine Ex.drew ?_ | with_reducible refine Ex.put ?_ (by omega) _))⟩
  rw [IntWalk.u64_in ((s * 256 + p) * 2654435761 % 4294967296 * n) ⟨by omega, by omega⟩, IntWalk.wrap64_in _ ⟨by omega, by omega⟩]
  rfl

def frameB (f : FrameD) : Bool := if f.used then keyB f.key && inB f.rights 8 else eqB f freeF
theorem frameB_iff {f : FrameD} : frameB f = true ↔ frameOk f := by
  unfold frameB frameOk
  cases hu : f.used
  · simp [freeF, eqB]
    exact decide_eq_true_iff
  · simp [keyB_iff, inB]
set_option maxHeartbeats 1000000 in
theorem l3Frame_c (f : FrameD) (w : World) : Calls Tryd.prog 40 #[.agg #[.bool f.used, .int .i64 f.key.space, .int .i64 f.key.page, .int .i64 f.rights, .int .i64 f.next]] w fun r w' => r = .returned (.bool (frameB f)) ∧ Ex w w' := by
  unfold frameB
  have hz := eql_frame f freeF
  simp only [freeF] at hz
  have C1 := Lib.hid (fun w => keyS_c f.key w)
  have C2 := Lib.hid (fun w => rightsS_c f.rights w)
  cases hu : f.used
  · simp only [Bool.false_eq_true, if_false]
    generalize hq : eqB f freeF = q
    rw [show (⟨false, ⟨0, 0⟩, 0, -1⟩ : FrameD) = freeF from rfl, hq] at hz
    rw [hu] at hz
    clear hq
    go_enter Tryd.func40, Tryd.ntmps40
    go_wp2
    go_ret
    exact ⟨rfl, (by repeat' (first | with_reducible exact Ex.refl _ | with_reducible refine Ex.alloc ?_ _ | with_reducible refine Ex.drew ?_ | with_reducible refine Ex.put ?_ (by omega) _))⟩
  · simp only [if_true]
    clear hz
    generalize keyB f.key = b1 at C1 ⊢
    generalize inB f.rights 8 = b2 at C2 ⊢
    cases b1
    · go_enter Tryd.func40, Tryd.ntmps40
      go_wp2_with fail
      refine (C1.out _).mono ?_
      rintro r w1 ⟨rfl, he⟩
      have HE := Lib.hid (((Ex.refl w).alloc _).trans he)
      clear he
      go_wp2
      go_ret
      exact ⟨rfl, (by repeat' (first | with_reducible exact HE.out | with_reducible refine Ex.alloc ?_ _ | with_reducible refine Ex.drew ?_ | with_reducible refine Ex.put ?_ (by omega) _))⟩
    · go_enter Tryd.func40, Tryd.ntmps40
      go_wp2_with fail
      refine name_calls ?_; intro v1 hv1
      have X1 : Hid (Chg (0) (0) w v1) := Lib.hid (by rw [hv1]; repeat' (first | with_reducible exact Chg.refl _ _ _ | with_reducible refine Chg.alloc ?_ _ | with_reducible refine Chg.drew ?_ | with_reducible refine Chg.set ?_ (by omega) _))
      have t1 : w.heap.size ≤ v1.heap.size := X1.out.size
      have Ev1 : Hid (Ex w v1) := Lib.hid ((Ex.refl w).chg X1.out (by omega))
      have KX : Hid (Blk v1 (w.heap.size) 47 [.bool true, .int .i64 f.key.space, .int .i64 f.key.page, .int .i64 f.rights, .int .i64 f.next]) := Lib.hid (by rw [hv1]; repeat' (first | with_reducible exact Blk.new_at _ _ _ (by simp) | with_reducible refine Blk.alloc ?_ _ | with_reducible refine Blk.drew ?_ | with_reducible refine Blk.far ?_ (by simp; omega) _))
      have lX : w.heap.size < v1.heap.size := KX.out.lt
      clear hv1
      refine (C1.out _).mono ?_; rintro r w1 ⟨rfl, hb1⟩
      have Y1 : Hid (Chg 0 0 v1 w1) := Lib.hid (Chg.of_ex hb1)
      have s1 : v1.heap.size ≤ w1.heap.size := Y1.out.size
      have Ew1 : Hid (Ex w w1) := Lib.hid (Ev1.out.chg Y1.out (by omega))
      clear hb1
      replace KX := Lib.hid (KX.out.chg Y1.out (by omega))
      obtain ⟨qX0, qX1, qX2, qX3, qX4⟩ := KX.out.c5
      have jX := KX.out.lt
      go_wp2_with fail
      refine (C2.out _).mono ?_
      rintro r w2 ⟨rfl, rfl⟩
      go_wp2
      go_ret
      exact ⟨rfl, (by repeat' (first | with_reducible exact Ew1.out | with_reducible refine Ex.alloc ?_ _ | with_reducible refine Ex.drew ?_ | with_reducible refine Ex.put ?_ (by omega) _))⟩
end Go.Proofs.YtbdlpbladpppjaaDoor
/- The chain of a bucket, as the reference walks it. -/
namespace Go.Proofs.YtbdlpbladpppjaaDoor
open Go.ChangeShapes Go.WideShapes Go.ChangeAt Go.RowKit
open Rec (sz cs)
set_option linter.unusedVariables false
set_option maxRecDepth 100000

def lenOf : Value → Nat
  | .slice _ n _ => n
  | _ => 0
def nums (l : List Nat) : List Int := l.map (fun (i : Nat) => (i : Int))
theorem nums_len (l : List Nat) : (nums l).length = l.length := by unfold nums; simp
theorem nums_snoc (l : List Nat) (i : Nat) : nums (l ++ [i]) = nums l ++ [(i : Int)] := by unfold nums; simp

/-- What the reference answers for the chain that begins at a0. -/
def ChainSaid (t : TableD) (a0 : Int) (w : World) (r : Ending) (w' : World) : Prop := ∃ (l : List Nat) (ok : Bool) (A : Option Addr) (c : Nat), r = .returned (.tuple #[.slice A l.length c, .bool ok]) ∧ (ok = true → Chain t.frames a0 l) ∧ (ok = false → ∀ l', ¬ Chain t.frames a0 l') ∧ l.length ≤ t.frames.length ∧ Rd w' A (nums l) ∧ Ex w w'

set_option maxHeartbeats 4000000 in
theorem l3Chain_c (t : TableD) (A : Option Addr) (c : Nat) (B : Option Addr) (d b : Nat) (a0 : Int) (w : World) (hx : Rd w A t.buckets) (hy : Rd w B t.frames) (hb : t.buckets[b]? = some a0) (hn : t.buckets.length ≤ 1048576) (hm : t.frames.length ≤ 1048576) :
    Calls Tryd.prog 41 #[.agg #[.slice A t.buckets.length c, .slice B t.frames.length d], .int .i64 b] w (ChainSaid t a0 w) := by
  obtain ⟨i0, hi, hz0, hz1, hz2⟩ := info_parts infoMInt
  have HX := Lib.hid hx
  have HY := Lib.hid hy
  have HBK := Lib.hid hb
  have hbl : b < t.buckets.length := getElem?_lt hb
  obtain ⟨n, hn1⟩ : ∃ n, n = t.frames.length := ⟨_, rfl⟩
  obtain ⟨m, hm1⟩ : ∃ m, m = t.buckets.length := ⟨_, rfl⟩
  have HN := Lib.hid hn1
  have HM := Lib.hid hm1
  rw [← hn1] at hm ⊢
  rw [← hm1] at hn hbl ⊢
  obtain ⟨b1, o1, a1, rfl, hb1, ha1, g0⟩ := HX.out.int (k := b) (by have := HM.out; omega)
  have e : a1 = a0 := by rw [hb] at ha1; injection ha1 with e; exact e.symm
  subst e
  clear hx hy hb hn1 hm1 ha1
  go_enter Tryd.func41, Tryd.ntmps41
  go_wp2
  clear g0
  go_loopw [6, 7] (fun q i wr => ∃ (pre : List Nat) (a : Int) (A' : Option Addr) (c' : Nat), i = .int .i64 a ∧ q = .slice A' pre.length c' ∧ Fr 3 wr (w.heap.size + 1) A' c' (nums pre) ∧ pre.length ≤ n ∧ Trail t.frames a1 pre a ∧ Blk wr w.heap.size 26 [.slice (some ⟨b1, o1, none⟩) m c, .slice B n d] ∧ Ex w wr ∧ w.heap.size + 1 ≤ wr.heap.size) (fun q _ _ => n + 1 - lenOf q)
  case atStart => exact ⟨[], a1, _, 0, rfl, rfl, Fr.none_ _ _ _ _, Nat.zero_le _, Trail.start _ _, (Blk.new _ _ _).alloc _, ((Ex.refl _).alloc _).alloc _, by simp⟩
  case round =>
    obtain ⟨pre, a, A', c', rfl, rfl, hf, hl, htr, hk, hex, hsz⟩ := hrel
    have HF := Lib.hid hf
    have HT := Lib.hid htr
    have KX := Lib.hid hk
    have HE := Lib.hid hex
    have HSZ := Lib.hid hsz
    clear hf htr hk hex hsz
    obtain ⟨q0, q1⟩ := KX.out.c2
    have jX := KX.out.lt
    by_cases ha : a = -1
    · subst ha
      go_wp2
      go_ret2
      exact ⟨pre, true, A', c', rfl, fun _ => HT.out.ends, (fun h => by cases h), by rw [← HN.out]; exact hl, HF.out.rd, HE.out⟩
    have hne : (a != -1) = true := by simpa using ha
    have HA := Lib.hid ha
    have hout : ∀ (w' : World), Ex wr w' → (∀ l', ¬ Chain t.frames a1 l') → ChainSaid t a1 w (.returned (.tuple #[.slice A' pre.length c', .bool false])) w' := fun w' he h => ⟨pre, false, A', c', rfl, (fun h => by cases h), fun _ => h, by rw [← HN.out]; exact hl, HF.out.rd.ex he, HE.out.trans he⟩
    have HOUT := Lib.hid hout
    clear hout
    by_cases h1 : a < 0
    · go_wp2
      go_ret2
      exact HOUT.out _ (Ex.refl _) (HT.out.bad (fun i f e _ => by omega) HA.out)
    obtain ⟨i, rfl⟩ := Int.eq_ofNat_of_zero_le (show 0 ≤ a by omega)
    by_cases h2 : n ≤ i
    · go_wp2
      go_ret2
      exact HOUT.out _ (Ex.refl _) (HT.out.bad (fun j f e hf => by have := getElem?_lt hf; have := HN.out; omega) HA.out)
    have h2' : i < n := by omega
    by_cases h3 : n ≤ pre.length
    · go_wp2
      go_ret2
      exact HOUT.out _ (Ex.refl _) (HT.out.long (by rw [← HN.out]; exact h3) HA.out)
    have h3' : pre.length < n := by omega
    obtain ⟨b2, o2, f, rfl, hb2, hfi, k0, k1, k2, k3, k4⟩ := (HY.out.ex HE.out).frame (k := i) (by have := HN.out; omega)
    have HFI := Lib.hid hfi
    clear hfi
    cases hu : f.used
    · rw [hu] at k0
      have HU := Lib.hid hu
      clear hu
      go_wp2
      go_ret2
      exact HOUT.out _ (Ex.refl _) (HT.out.bad (fun j g e hg => by
        have e2 : i = j := by omega
        subst e2
        rw [HFI.out] at hg
        injection hg with hg
        rw [← hg]; exact HU.out) HA.out)
    · rw [hu] at k0
      have HU := Lib.hid hu
      clear hu
      have h63 : pre.length + 1 ≤ maxLen := by simp [maxLen]; omega
      have hby : (pre.length + 1) * 8 ≤ 140737488355328 := by omega
      have HLN := Lib.hid (nums_len pre).symm
      have HXE : Hid (Rd wr (some ⟨b2, o2, none⟩) t.frames) := Lib.hid (HY.out.ex HE.out)
      go_wp2_with (at_builtin; refine wpList_append_fr (α := Int) rfl _ _ 23 rfl 3 i0 _ 8 (w.heap.size + 1) Tryd.underlying23 hi hz0 hz1 hz2 rfl A' c' pre.length (nums pre) HLN.out rfl (HF.out.alloc _) _ 1 1 [(i : Int)] rfl rfl (Bk.new wr 3 [(i : Int)]).rd h63 hby (Nat.le_trans HSZ.out (by simp)) ?_)
      intro A6 c6 w6 happ
      have HAP := Lib.hid happ
      have KX6 : Hid (Blk w6 w.heap.size 26 [.slice (some ⟨b1, o1, none⟩) m c, .slice (some ⟨b2, o2, none⟩) n d]) := Lib.hid ((KX.out.alloc _).grown HAP.out.grown (fun e => by have := HF.out.row _ e.symm; omega))
      have HE6 : Hid (Ex w w6) := Lib.hid ((HE.out.alloc _).grown HAP.out.grown (fun g hg => by have := HF.out.row _ hg; omega))
      have hw6 : wr.heap.size ≤ w6.heap.size := by have := HAP.out.grown.size; simp at this; omega
      clear happ q0 q1 jX k0 k1 k2 k3 k4
      obtain ⟨q0, q1⟩ := KX6.out.c2
      have jX := KX6.out.lt
      obtain ⟨b3, o3, g, e3, hb3, hgi, k0, k1, k2, k3, k4⟩ := (HY.out.ex HE6.out).frame (k := i) (by have := HN.out; omega)
      cases e3
      have e : g = f := by rw [HFI.out] at hgi; injection hgi with e; exact e.symm
      subst e
      clear hgi
      go_wp2
      go_roundw
      case rel => exact ⟨pre ++ [i], g.next, A6, c6, rfl, by simp, by rw [nums_snoc]; exact HAP.out.fr, by simp; omega, HT.out.step HFI.out HU.out, KX6.out, HE6.out, by have := HSZ.out; omega⟩
      case measure => simp [lenOf]; omega
end Go.Proofs.YtbdlpbladpppjaaDoor
/- Moves of a walk through a region that draws its order, in few words. -/
namespace Go.Proofs.YtbdlpbladpppjaaDoor
open Go.ChangeShapes Go.WideShapes Go.ChangeAt Go.RowKit
set_option linter.unusedVariables false
set_option maxRecDepth 100000
section
variable {P : Program} {ops : Array Oper} {Q : Exit → Act → World → Prop} {md : Region.Mode} {S : World → Prop}
/-- Number i is taken first: it yields. -/
theorem tk {fuel : Nat} {listed l' : Array Bool} {a a' : Act} {w : World} {oi : Oper} {v : Value} (i : Nat) (h : wpAnyH P md ops Q S fuel l' a' w)
    (hi : ops[i]? = some oi := by (conv => lhs; whnf; arg 1; whnf))
    (hs : Region.noSelect ops = true := by kernel_rfl) (hf : Region.free md ops listed i = true := by kernel_rfl) (hr : (Region.ready md ops listed).contains i = true := by kernel_rfl)
    (hQ : ∀ c a w, Q (.panic c) (a.put oi.dst v) w → Q (.panic c) a w := by exact fun _ _ _ h => h)
    (hy : YieldsIf P ops S oi v a := by (refine Or.inl ⟨by rfl, ?_⟩; intro w hSw; (try dsimp only at hSw); first | (go_simp; done) | (go_simp; with_reducible rfl)))
    (hS : S w := by assumption)
    (hl : listed.setIfInBounds i true = l' := by first | (simp only [List.setIfInBounds_toArray, List.set_cons_zero, List.set_cons_succ]; done) | (simp only [List.setIfInBounds_toArray, List.set_cons_zero, List.set_cons_succ]; exact rfl) | exact rfl)
    (ha : a.put oi.dst v = a' := by first | (simp only [Act.put, List.setIfInBounds_toArray, List.set_cons_zero, List.set_cons_succ]; done) | (simp only [Act.put, List.setIfInBounds_toArray, List.set_cons_zero, List.set_cons_succ]; exact rfl) | exact rfl) :
    wpAnyH P md ops Q S (fuel + 1) listed a w := by
  subst hl ha
  exact wpAnyH_take hi hs hf hr hQ hy hS h
/-- Number i is taken first: its guard is off. -/
theorem tn {fuel : Nat} {listed l' : Array Bool} {a a' : Act} {w : World} {oi : Oper} (i : Nat) (h : wpAnyH P md ops Q S fuel l' a' w)
    (hi : ops[i]? = some oi := by (conv => lhs; whnf; arg 1; whnf))
    (hs : Region.noSelect ops = true := by kernel_rfl) (hf : Region.free md ops listed i = true := by kernel_rfl) (hr : (Region.ready md ops listed).contains i = true := by kernel_rfl)
    (hQ : ∀ c a w, Q (.panic c) (a.put oi.dst undef) w → Q (.panic c) a w := by exact fun _ _ _ h => h)
    (hw : Region.wanted oi (yielded ops a.tmps) = false := by rfl)
    (hS : S w := by assumption)
    (hl : listed.setIfInBounds i true = l' := by first | (simp only [List.setIfInBounds_toArray, List.set_cons_zero, List.set_cons_succ]; done) | (simp only [List.setIfInBounds_toArray, List.set_cons_zero, List.set_cons_succ]; exact rfl) | exact rfl)
    (ha : a.put oi.dst undef = a' := by first | (simp only [Act.put, List.setIfInBounds_toArray, List.set_cons_zero, List.set_cons_succ]; done) | (simp only [Act.put, List.setIfInBounds_toArray, List.set_cons_zero, List.set_cons_succ]; exact rfl) | exact rfl) :
    wpAnyH P md ops Q S (fuel + 1) listed a w := by
  subst hl ha
  exact wpAnyH_take hi hs hf hr hQ (Or.inr ⟨hw, rfl⟩) hS h
end
end Go.Proofs.YtbdlpbladpppjaaDoor
/- TableValid of the reference. -/
namespace Go.Proofs.YtbdlpbladpppjaaDoor
open Go.ChangeShapes Go.WideShapes Go.ChangeAt Go.RowKit
open Rec (sz cs)
set_option linter.unusedVariables false
set_option maxRecDepth 100000

theorem fieldsKeyV : Tryd.prog.underlying 45 = some (.struct (Tryd.prog.fieldsOf 45)) := by kernel_rfl
theorem heldKeyV : Tryd.prog.stoodInHeld 45 = false := by kernel_rfl
theorem guardKeyV : Tryd.prog.eqGuardType Tryd.prog.depth 45 = false := by kernel_rfl
theorem eqIn_keyV (x y : KeyD) (w : World) : (Op.equalIn 10000 45 (.agg #[.int .i64 x.space, .int .i64 x.page]) (.agg #[.int .i64 y.space, .int .i64 y.page])).run Tryd.prog w = .ok (eqB x y) w := by
  obtain ⟨a, b⟩ := x
  obtain ⟨c, d⟩ := y
  rw [run_equalIn_agg w 9999 _ _ _ fieldsKeyV heldKeyV]
  simp [go_sem, Tryd.underlying45]
  by_cases h1 : a = c <;> by_cases h2 : b = d <;> simp [eqB, h1, h2]
theorem eql_keyV (x y : KeyD) (w : World) : (binOp .eql 45 (.agg #[.int .i64 x.space, .int .i64 x.page]) (.agg #[.int .i64 y.space, .int .i64 y.page])).run Tryd.prog w = .ok (.bool (eqB x y)) w := by
  rw [run_eql_struct, eqIn_keyV]; rfl
theorem usedN_le (fs : List FrameD) (k : Nat) : usedN fs k ≤ k := by
  unfold usedN
  exact Nat.le_trans (List.length_filter_le _ _) (by rw [List.length_take]; omega)

set_option maxHeartbeats 4000000 in
theorem tableS_c (t : TableD) (A : Option Addr) (c : Nat) (B : Option Addr) (d : Nat) (w : World) (hx : Rd w A t.buckets) (hy : Rd w B t.frames) (hn : t.buckets.length ≤ 1048576) (hm : t.frames.length ≤ 1048576) :
    Calls Tryd.prog 18 #[.agg #[.slice A t.buckets.length c, .slice B t.frames.length d]] w fun r w' => r = .returned (.bool (tableV t)) ∧ Ex w w' := by
  have CB := Lib.hid (fun w => l2Buckets_c (t.buckets.length : Int) w)
  by_cases hh : TableHead t
  rotate_left
  · rw [tableV_no (fun h => hh h.1)]
    have h3 : t.frames.length < 1 ∨ 16 < t.frames.length ∨ ((1 ≤ t.frames.length ∧ t.frames.length ≤ 16) ∧ bkB (t.buckets.length : Int) = false) := by
      unfold TableHead at hh
      by_cases g : 1 ≤ t.frames.length ∧ t.frames.length ≤ 16
      · exact .inr (.inr ⟨g, bkB_not.2 (by omega)⟩)
      · omega
    generalize t.frames.length = n at h3 hm ⊢
    generalize t.buckets.length = m at CB hn h3 ⊢
    clear hh hx hy
    rcases h3 with h1 | h1 | ⟨⟨h1, h2⟩, h3⟩
    · go_enter Tryd.func18, Tryd.ntmps18
      go_wp2
      go_ret
      exact ⟨rfl, (by repeat' (first | with_reducible exact Ex.refl _ | with_reducible refine Ex.alloc ?_ _ | with_reducible refine Ex.drew ?_ | with_reducible refine Ex.put ?_ (by omega) _))⟩
    · go_enter Tryd.func18, Tryd.ntmps18
      go_wp2
      go_ret
      exact ⟨rfl, (by repeat' (first | with_reducible exact Ex.refl _ | with_reducible refine Ex.alloc ?_ _ | with_reducible refine Ex.drew ?_ | with_reducible refine Ex.put ?_ (by omega) _))⟩
    · rw [h3] at CB
      clear h3
      go_enter Tryd.func18, Tryd.ntmps18
      go_wp2_with fail
      refine (CB.out _).mono ?_
      rintro r w1 ⟨rfl, rfl⟩
      go_wp2
      go_ret
      exact ⟨rfl, (by repeat' (first | with_reducible exact Ex.refl _ | with_reducible refine Ex.alloc ?_ _ | with_reducible refine Ex.drew ?_ | with_reducible refine Ex.put ?_ (by omega) _))⟩
  rw [show bkB (t.buckets.length : Int) = true from bkB_iff.2 (by unfold TableHead at hh; omega)] at CB
  have HH := Lib.hid hh
  obtain ⟨⟨hn1, hn2⟩, hm1, hm2⟩ := hh
  have HX := Lib.hid hx
  have HY := Lib.hid hy
  obtain ⟨n, en⟩ : ∃ n, n = t.frames.length := ⟨_, rfl⟩
  obtain ⟨m, em⟩ : ∃ m, m = t.buckets.length := ⟨_, rfl⟩
  have HN := Lib.hid en
  have HM := Lib.hid em
  rw [← en] at hn1 hn2 ⊢
  rw [← em] at hm1 hm2 CB ⊢
  have HNO : Hid (∀ w', Ex w w' → ¬ TableOk t → (Ending.returned (.bool false) = .returned (.bool (tableV t)) ∧ Ex w w')) := Lib.hid (fun w' h1 h2 => ⟨ret_bool (tableV_no h2).symm, h1⟩)
  have CC := Lib.hid (fun b a0 w h1 h2 hb => l3Chain_c t A c B d b a0 w h1 h2 hb hn hm)
  rw [← en, ← em] at CC
  have CES : Hid (∀ (args : Array Value) (w : World), (callFunc 42 args).run Tryd.prog w = .ok (.enter 42 args) w) := Lib.hid (enters Tryd.func42 (by kernel_rfl) (by kernel_rfl))
  clear hx hy hn hm en em
  go_enter Tryd.func18, Tryd.ntmps18
  go_wp2_with fail
  refine (CB.out _).mono ?_
  rintro r w1 ⟨rfl, rfl⟩
  clear CB
  go_wp2
  go_loopw [3, 4] (fun u i wr => ∃ k : Nat, k ≤ n ∧ i = .int .i64 k ∧ u = .int .i64 (usedN t.frames k) ∧ FramesUp t.frames k ∧ Blk wr w.heap.size 26 [.slice A m c, .slice B n d] ∧ Ex w wr) (fun _ i _ => n - (intOf i).toNat)
  case atStart => exact ⟨0, Nat.zero_le _, rfl, rfl, framesUp_zero _, Blk.new _ _ _, (Ex.refl _).alloc _⟩
  case round =>
    obtain ⟨k, hk, rfl, rfl, hup, hbk, hex⟩ := hrel
    have HU := Lib.hid hup
    have KX := Lib.hid hbk
    have HE := Lib.hid hex
    clear hup hbk hex
    by_cases hlt : k < n
    · obtain ⟨b2, o2, f, rfl, hb2, hfi, k0, k1, k2, k3, k4⟩ := (HY.out.ex HE.out).frame (k := k) (by have := HN.out; omega)
      have HFI := Lib.hid hfi
      obtain ⟨q0, q1⟩ := KX.out.c2
      have jX := KX.out.lt
      have C1 := Lib.hid (fun w => l3Frame_c f w)
      cases hfb : frameB f
      · rw [hfb] at C1
        clear hfi
        go_wp2_with fail
        refine (C1.out _).mono ?_
        rintro r w2 ⟨rfl, he⟩
        have HE2 := Lib.hid (HE.out.trans he)
        have HB := Lib.hid hfb
        clear he hfb
        go_wp2
        go_ret
        exact HNO.out _ HE2.out (not_frames HFI.out (fun h => by have := frameB_iff.2 h.1; rw [HB.out] at this; cases this))
      · rw [hfb] at C1
        have HB : Hid (frameOk f) := Lib.hid (frameB_iff.1 hfb)
        clear hfi hfb
        go_wp2_with fail
        refine (C1.out _).mono ?_
        rintro r w2 ⟨rfl, he⟩
        have HE2 := Lib.hid (HE.out.trans he)
        have KX2 := Lib.hid (KX.out.ex he)
        clear he q0 q1 jX k0 k1 k2 k3 k4 C1 KX
        obtain ⟨q0, q1⟩ := KX2.out.c2
        have jX := KX2.out.lt
        obtain ⟨b3, o3, g, e3, hb3, hgi, k0, k1, k2, k3, k4⟩ := (HY.out.ex HE2.out).frame (k := k) (by have := HN.out; omega)
        cases e3
        have e : f = g := by rw [HFI.out] at hgi; injection hgi
        subst e
        clear hgi
        have hul := usedN_le t.frames k
        have HUS := Lib.hid (usedN_succ HFI.out)
        generalize usedN t.frames k = un at hul HUS ⊢
        cases hu : f.used
        · have HFU := Lib.hid hu
          rw [hu] at k0
          clear hu
          go_wp2
          clear q0 q1 jX k0 k1 k2 k3 k4
          go_loopw [5] (fun i wq => ∃ j : Nat, j ≤ k ∧ i = .int .i64 j ∧ Ex w2 wq) (fun i _ => k - (intOf i).toNat)
          case atStart => exact ⟨0, Nat.zero_le _, rfl, Ex.refl _⟩
          case round =>
            obtain ⟨j, hj, rfl, hq⟩ := hrel
            have HQ := Lib.hid hq
            skip
            clear hq
            by_cases hjk : j < k
            · obtain ⟨q0, q1⟩ := (KX2.out.ex HQ.out).c2
              have jX := (KX2.out.ex HQ.out).lt
              obtain ⟨b4, o4, g4, e4, hb4, hg4, k0, k1, k2, k3, k4⟩ := (HY.out.ex (HE2.out.trans HQ.out)).frame (k := k) (by have := HN.out; omega)
              cases e4
              have e : g4 = f := by rw [HFI.out] at hg4; injection hg4 with e; exact e.symm
              rw [e] at k0 k1 k2 k3 k4
              rw [HFU.out] at k0
              clear hg4 e
              go_wp2_with fail
              go_quiet (fail)
              go_wp2
              go_roundw
              case rel => exact ⟨j + 1, by omega, by go_num, HQ.out.drewN _⟩
              case measure => simp [intOf]; omega
            · obtain rfl : j = k := by omega
              go_wp2
              go_roundw
              case rel => exact ⟨j + 1, by omega, by go_num, by rw [HUS.out, HFU.out]; simp, framesUp_succ HU.out HFI.out HB.out (fun j' g hj' hg h1 => by rw [HFU.out] at h1; cases h1), KX2.out.ex HQ.out, HE2.out.trans HQ.out⟩
              case measure => simp [intOf]; omega
        · have HFU := Lib.hid hu
          rw [hu] at k0
          clear hu
          go_wp2
          clear q0 q1 jX k0 k1 k2 k3 k4
          go_loopw [5] (fun i wq => ∃ j : Nat, j ≤ k ∧ i = .int .i64 j ∧ Ex w2 wq ∧ ∀ j' g, j' < j → t.frames[j']? = some g → g.used = true → g.key ≠ f.key) (fun i _ => k - (intOf i).toNat)
          case atStart => exact ⟨0, Nat.zero_le _, rfl, Ex.refl _, fun j' g h => by omega⟩
          case round =>
            obtain ⟨j, hj, rfl, hq, hall⟩ := hrel
            have HQ := Lib.hid hq
            have HALL := Lib.hid hall
            clear hq hall
            by_cases hjk : j < k
            · obtain ⟨q0, q1⟩ := (KX2.out.ex HQ.out).c2
              have jX := (KX2.out.ex HQ.out).lt
              obtain ⟨b4, o4, g4, e4, hb4, hg4, k0, k1, k2, k3, k4⟩ := (HY.out.ex (HE2.out.trans HQ.out)).frame (k := k) (by have := HN.out; omega)
              cases e4
              have e : g4 = f := by rw [HFI.out] at hg4; injection hg4 with e; exact e.symm
              rw [e] at k0 k1 k2 k3 k4
              rw [HFU.out] at k0
              clear hg4 e
              obtain ⟨b5, o5, g, e5, hb5, hgj, p0, p1, p2, p3, p4⟩ := (HY.out.ex (HE2.out.trans HQ.out)).frame (k := j) (by have := HN.out; omega)
              cases e5
              have HGJ := Lib.hid hgj
              clear hgj
              cases hgu : g.used
              · have HGU := Lib.hid hgu
                rw [hgu] at p0
                clear hgu
                go_wp2_with fail
                go_quiet (fail)
                go_wp2
                go_roundw
                case rel => exact ⟨j + 1, by omega, by go_num, HQ.out.drewN _, fun j' g' hj' hg' h1 => by
                  by_cases e : j' = j
                  · subst e
                    rw [HGJ.out] at hg'
                    injection hg' with hg'
                    rw [← hg', HGU.out] at h1
                    cases h1
                  · exact HALL.out j' g' (by omega) hg' h1⟩
                case measure => simp [intOf]; omega
              · have HGU := Lib.hid hgu
                rw [hgu] at p0
                have hz := eql_keyV g.key f.key
                have hgd := guardKeyV
                cases hkk : eqB g.key f.key
                · rw [hkk] at hz
                  have HKK := Lib.hid (eqB_false.1 hkk)
                  clear hgu hkk
                  go_wp2_with fail
                  go_quiet (fail)
                  go_wp2
                  go_roundw
                  case rel => exact ⟨j + 1, by omega, by go_num, HQ.out.drewN _, fun j' g' hj' hg' h1 => by
                    by_cases e : j' = j
                    · subst e
                      rw [HGJ.out] at hg'
                      injection hg' with hg'
                      rw [← hg']
                      exact HKK.out
                    · exact HALL.out j' g' (by omega) hg' h1⟩
                  case measure => simp [intOf]; omega
                · rw [hkk] at hz
                  have HKK := Lib.hid (eqB_true.1 hkk)
                  clear hgu hkk
                  go_wp2_with fail
                  go_quiet (fail)
                  go_wp2
                  go_ret
                  exact HNO.out _ ((HE2.out.trans HQ.out).drewN _) (not_frames HFI.out (fun h => h.2 j g hjk HGJ.out HFU.out HGU.out HKK.out))
            · obtain rfl : j = k := by omega
              go_wp2
              go_roundw
              case rel => exact ⟨j + 1, by omega, by go_num, by rw [HUS.out, HFU.out]; exact congrArg _ (by simp), framesUp_succ HU.out HFI.out HB.out (fun j' g hj' hg _ => HALL.out j' g hj' hg), KX2.out.ex HQ.out, HE2.out.trans HQ.out⟩
              case measure => simp [intOf]; omega
    · -- BUCKETS
      obtain rfl : k = n := by omega
      have HU3 : Hid (FramesUp t.frames t.frames.length) := Lib.hid (by rw [← HN.out]; exact HU.out)
      have hul := usedN_le t.frames k
      have HUN : Hid (usedN t.frames k = usedN t.frames t.frames.length) := Lib.hid (by rw [← HN.out])
      generalize usedN t.frames k = un at hul HUN ⊢
      obtain ⟨q0, q1⟩ := KX.out.c2
      have jX := KX.out.lt
      clear HU
      go_wp2
      clear q0 q1 jX
      go_loopw [3, 6] (fun u i wb => ∃ (b : Nat) (ls : List (List Nat)), b ≤ m ∧ i = .int .i64 b ∧ u = .int .i64 ((un : Int) - (sumL ls : Int)) ∧ Buckets t b ls ∧ sumL ls ≤ 16 * b ∧ Ex wr wb) (fun _ i _ => m - (intOf i).toNat)
      case atStart => exact ⟨0, [], Nat.zero_le _, rfl, by simp [sumL], Buckets.zero _, Nat.zero_le _, Ex.refl _⟩
      case round =>
        obtain ⟨b, ls, hb, rfl, rfl, hbu, hsl, hexb⟩ := hrel
        have HBU := Lib.hid hbu
        have HEB := Lib.hid hexb
        have HE3 := Lib.hid (HE.out.trans hexb)
        have KX2 := Lib.hid (KX.out.ex hexb)
        clear hbu hexb
        obtain ⟨q0, q1⟩ := KX2.out.c2
        have jX := KX2.out.lt
        by_cases hbm : b < m
        · obtain ⟨a0, ha0⟩ : ∃ a, t.buckets[b]? = some a := ⟨_, List.getElem?_eq_getElem (by have := HM.out; omega)⟩
          have HA0 := Lib.hid ha0
          clear ha0
          generalize hsm : sumL ls = sl at hsl ⊢
          have HSM := Lib.hid hsm
          clear hsm
          go_wp2_with fail
          refine (CC.out b a0 _ (HX.out.ex HE3.out) (HY.out.ex HE3.out) HA0.out).mono ?_
          rintro r w3 ⟨l, ok, A3, c3, rfl, hok, hno, hll, hrd, he⟩
          have HOK := Lib.hid hok
          have HNOC := Lib.hid hno
          have HRD := Lib.hid hrd
          have HE4 := Lib.hid (HE3.out.trans he)
          have HEB3 := Lib.hid (HEB.out.trans he)
          have KX3 := Lib.hid (KX2.out.ex he)
          have hll' : l.length ≤ k := by have := HN.out; omega
          clear hok hno hrd he hll q0 q1 jX KX2
          cases ok
          · have HNC := Lib.hid (HNOC.out rfl)
            clear HNOC HOK
            go_wp2
            go_ret
            exact HNO.out _ HE4.out (not_nochain HA0.out HNC.out)
          have HCH := Lib.hid (HOK.out rfl)
          clear HOK HNOC
          go_wp2
          go_loopw [9] (fun i wq => ∃ j : Nat, j ≤ l.length ∧ i = .int .i64 j ∧ Ex w3 wq ∧ ∀ (j' x : Nat) (f : FrameD), j' < j → l[j']? = some x → t.frames[x]? = some f → hashK f.key t.buckets.length = b) (fun i _ => l.length - (intOf i).toNat)
          case atStart => exact ⟨0, Nat.zero_le _, rfl, Ex.refl _, fun j' x f h => by omega⟩
          case round =>
            obtain ⟨j, hj, rfl, hq, hall⟩ := hrel
            have HQ := Lib.hid hq
            have HALL := Lib.hid hall
            clear hq hall
            by_cases hjl : j < l.length
            · obtain ⟨b5, o5, y, rfl, hb5, hyj, hcy⟩ := (HRD.out.ex HQ.out).int (k := j) (by rw [nums_len]; exact hjl)
              obtain ⟨x, hxj⟩ : ∃ x, l[j]? = some x := ⟨_, List.getElem?_eq_getElem hjl⟩
              have e : y = (x : Int) := by unfold nums at hyj; rw [List.getElem?_map, hxj] at hyj; injection hyj with e; exact e.symm
              subst e
              obtain ⟨f, hfx, hfu⟩ := HCH.out.in_ (List.mem_of_getElem? hxj)
              have hxn : x < k := by have := getElem?_lt hfx; have := HN.out; omega
              have hkok : keyOk f.key := ((HU3.out x f (getElem?_lt hfx) hfx).1.2 hfu).1
              obtain ⟨b2, o2, f', rfl, hb2, hfx', k0, k1, k2, k3, k4⟩ := (HY.out.ex (HE4.out.trans HQ.out)).frame (k := x) (by have := HN.out; omega)
              have e : f' = f := by rw [hfx] at hfx'; injection hfx' with e; exact e.symm
              subst e
              have HXJ := Lib.hid hxj
              have HFX := Lib.hid hfx
              have FK : Hid (∀ w', Ex wr w' → (w'.cell? ⟨w.heap.size, 0, none⟩ = some (.slice A m c) ∧ w'.cell? ⟨w.heap.size, 1, none⟩ = some (.slice (some ⟨b2, o2, none⟩) k d) ∧ w'.cell? ⟨b5, o5 + j, none⟩ = some (.int .i64 x) ∧ w'.cell? ⟨b2, o2 + x * 5 + 1, none⟩ = some (.int .i64 f'.key.space) ∧ w'.cell? ⟨b2, o2 + x * 5 + 2, none⟩ = some (.int .i64 f'.key.page))) := Lib.hid (fun w' h => ⟨((KX3.out.ex HQ.out).ex h).c2.1, ((KX3.out.ex HQ.out).ex h).c2.2, (h.cell hb5).trans hcy, (h.cell hb2).trans k1, (h.cell hb2).trans k2⟩)
              have CH := Lib.hid (fun w => hashS_c f'.key (m : Int) w hkok (by omega) (by omega))
              have HHV : Hid (hashK f'.key (m : Int) = hashK f'.key t.buckets.length) := Lib.hid (by rw [← HM.out])
              generalize hashK f'.key (m : Int) = hv at CH HHV
              clear hyj hxj hfx hfx' k0 k1 k2 k3 k4 hcy hkok hfu
              by_cases ehv : hv = (b : Int)
              · subst ehv
                obtain ⟨m0, m1, m2, m3, m4⟩ := FK.out wr (Ex.refl _)
                have jX := (KX3.out.ex HQ.out).lt
                go_wp2_with fail
                clear m0 m1 m2 m3 m4 jX
                refine wp_region_held_drew (S := (fun w' => (w'.cell? ⟨w.heap.size, 0, none⟩ = some (.slice A m c) ∧ w'.cell? ⟨w.heap.size, 1, none⟩ = some (.slice (some ⟨b2, o2, none⟩) k d) ∧ w'.cell? ⟨b5, o5 + j, none⟩ = some (.int .i64 x) ∧ w'.cell? ⟨b2, o2 + x * 5 + 1, none⟩ = some (.int .i64 f'.key.space) ∧ w'.cell? ⟨b2, o2 + x * 5 + 2, none⟩ = some (.int .i64 f'.key.page)))) (by kernel_rfl) ?r0_hS0 (fun hHeld => ?_)
                case r0_hS0 => exact FK.out _ (Ex.refl _).drew
                refine tk 0 ?_; refine tk 1 ?_; refine tk 2 ?_; refine tk 3 ?_; refine tk 4 ?_; refine tk 5 ?_; refine tk 6 ?_; refine tk 7 ?_; refine tk 8 ?_; refine tk 9 ?_; refine tk 10 ?_; refine tk 11 ?_; refine tk 13 ?_
                refine wpAnyH_ready (rs := [12]) (by kernel_rfl) (by simp) ?_
                refine AllReadyH.cons (o := ?r0_o12) ?r0_ho12 (fun K hK => ?_) AllReadyH.nil
                case r0_ho12 => (conv => lhs; whnf; arg 1; whnf)
                refine step_call_gu rfl CES.out _ _ rfl #[.agg #[  .int .i64 f'.key.space, .int .i64 f'.key.page], .int .i64 m] rfl (CH.out _) ?_; rintro r wa ⟨rfl, hwa⟩; refine ⟨_, rfl, ?_⟩; have hxa := Ex.trans (Ex.refl _).drew hwa
                refine hK.out _ _ ?r0_hS12 (fun hHeld12 => ?_)
                case r0_hS12 => exact FK.out _ hxa
                clear hK K hHeld
                try simp only [Act.put, List.setIfInBounds_toArray, List.set_cons_zero, List.set_cons_succ]
                refine tk 14 ?_
                refine wpAnyH_done (by kernel_rfl) ?_ _
                go_wp2
                go_roundw
                case rel => exact ⟨j + 1, by omega, by go_num, HQ.out.trans hxa, fun j' x' g hj' hx' hg => by
                  by_cases e : j' = j
                  · subst e
                    rw [HXJ.out] at hx'
                    injection hx' with hx'
                    subst hx'
                    rw [HFX.out] at hg
                    injection hg with hg
                    subst hg
                    exact HHV.out.symm
                  · exact HALL.out j' x' g (by omega) hx' hg⟩
                case measure => simp [intOf]; omega
              · have HEHV := Lib.hid ehv
                obtain ⟨m0, m1, m2, m3, m4⟩ := FK.out wr (Ex.refl _)
                have jX := (KX3.out.ex HQ.out).lt
                go_wp2_with fail
                clear m0 m1 m2 m3 m4 jX
                refine wp_region_held_drew (S := (fun w' => (w'.cell? ⟨w.heap.size, 0, none⟩ = some (.slice A m c) ∧ w'.cell? ⟨w.heap.size, 1, none⟩ = some (.slice (some ⟨b2, o2, none⟩) k d) ∧ w'.cell? ⟨b5, o5 + j, none⟩ = some (.int .i64 x) ∧ w'.cell? ⟨b2, o2 + x * 5 + 1, none⟩ = some (.int .i64 f'.key.space) ∧ w'.cell? ⟨b2, o2 + x * 5 + 2, none⟩ = some (.int .i64 f'.key.page)))) (by kernel_rfl) ?r1_hS0 (fun hHeld => ?_)
                case r1_hS0 => exact FK.out _ (Ex.refl _).drew
                refine tk 0 ?_; refine tk 1 ?_; refine tk 2 ?_; refine tk 3 ?_; refine tk 4 ?_; refine tk 5 ?_; refine tk 6 ?_; refine tk 7 ?_; refine tk 8 ?_; refine tk 9 ?_; refine tk 10 ?_; refine tk 11 ?_; refine tk 13 ?_
                refine wpAnyH_ready (rs := [12]) (by kernel_rfl) (by simp) ?_
                refine AllReadyH.cons (o := ?r1_o12) ?r1_ho12 (fun K hK => ?_) AllReadyH.nil
                case r1_ho12 => (conv => lhs; whnf; arg 1; whnf)
                refine step_call_gu rfl CES.out _ _ rfl #[.agg #[  .int .i64 f'.key.space, .int .i64 f'.key.page], .int .i64 m] rfl (CH.out _) ?_; rintro r wa ⟨rfl, hwa⟩; refine ⟨_, rfl, ?_⟩; have hxa := Ex.trans (Ex.refl _).drew hwa
                refine hK.out _ _ ?r1_hS12 (fun hHeld12 => ?_)
                case r1_hS12 => exact FK.out _ hxa
                clear hK K hHeld
                try simp only [Act.put, List.setIfInBounds_toArray, List.set_cons_zero, List.set_cons_succ]
                refine tk 14 ?_
                refine wpAnyH_done (by kernel_rfl) ?_ _
                go_wp2
                go_ret
                exact HNO.out _ ((HE4.out.trans HQ.out).trans hxa) (not_hash HA0.out HCH.out (List.mem_of_getElem? HXJ.out) HFX.out (by rw [← HHV.out]; exact HEHV.out))
            · obtain rfl : j = l.length := by omega
              go_wp2
              go_roundw
              case rel => exact ⟨b + 1, ls ++ [l], by omega, by go_num, by rw [sumL_succ, HSM.out]; exact congrArg _ (by omega), HBU.out.succ HA0.out HCH.out (fun x f hx hf => by
                obtain ⟨j', hj', e⟩ := List.getElem_of_mem hx
                exact HALL.out j' x f hj' (by rw [List.getElem?_eq_getElem hj', e]) hf), by rw [sumL_succ, HSM.out]; omega, HEB3.out.trans HQ.out⟩
              case measure => simp [intOf]; omega
        · obtain rfl : b = m := by omega
          go_wp2
          go_ret
          refine ⟨ret_bool ?_, HE3.out⟩
          rw [Bool.eq_iff_iff, tableV_iff, tableOk_end HH.out HU3.out (HM.out ▸ HBU.out), ← HUN.out]
          simp
          omega
end Go.Proofs.YtbdlpbladpppjaaDoor
/- The frame of a key: l3Find of the reference, find of the program. -/
namespace Go.Proofs.YtbdlpbladpppjaaDoor
open Go.ChangeShapes Go.WideShapes Go.ChangeAt Go.RowKit
open Rec (sz cs)
set_option linter.unusedVariables false
set_option maxRecDepth 100000

set_option maxHeartbeats 4000000 in
theorem l3Find_c (t : TableD) (A : Option Addr) (c : Nat) (B : Option Addr) (d : Nat) (k : KeyD) (w : World) (hx : Rd w A t.buckets) (hy : Rd w B t.frames) (hok : TableOk t) (hk : keyOk k) :
    Calls Tryd.prog 48 #[.agg #[.slice A t.buckets.length c, .slice B t.frames.length d], .agg #[.int .i64 k.space, .int .i64 k.page]] w fun r w' => (∃ s : Int, r = .returned (.tuple #[.int .i64 (findF t k), .int .i64 s])) ∧ Ex w w' := by
  obtain ⟨⟨hn1, hn2⟩, hm1, hm2⟩ := hok.1
  obtain ⟨hv1, hv2⟩ := hashK_range (n := t.buckets.length) hk hm1 hm2
  obtain ⟨b, eb⟩ : ∃ b : Nat, hashK k t.buckets.length = (b : Int) := ⟨(hashK k t.buckets.length).toNat, by omega⟩
  have hbm : b < t.buckets.length := by omega
  obtain ⟨a0, ha0⟩ : ∃ a, t.buckets[b]? = some a := ⟨_, List.getElem?_eq_getElem hbm⟩
  obtain ⟨l0, hl0, _⟩ := hok.bucket ha0
  have HX := Lib.hid hx
  have HY := Lib.hid hy
  have HL0 := Lib.hid hl0
  have CC := Lib.hid (fun w h1 h2 => l3Chain_c t A c B d b a0 w h1 h2 ha0 (by omega) (by omega))
  have CH := Lib.hid (fun w => hashS_c k (t.buckets.length : Int) w hk (by omega) (by omega))
  rw [eb] at CH
  have HIT := Lib.hid (fun x f h1 h2 h3 => @findF_hit t k hok x f h1 h2 h3)
  have HMISS := Lib.hid (fun l hl hno => @findF_miss t k hok b a0 l eb ha0 hl hno)
  obtain ⟨n, en⟩ : ∃ n, n = t.frames.length := ⟨_, rfl⟩
  obtain ⟨m, em⟩ : ∃ m, m = t.buckets.length := ⟨_, rfl⟩
  have HN := Lib.hid en
  rw [← en] at hn1 hn2 CC ⊢
  rw [← em] at hm1 hm2 hbm CC CH ⊢
  generalize findF t k = res at HIT HMISS ⊢
  have CES : Hid (∀ (args : Array Value) (w : World), (callFunc 42 args).run Tryd.prog w = .ok (.enter 42 args) w) := Lib.hid (enters Tryd.func42 (by kernel_rfl) (by kernel_rfl))
  have CEC : Hid (∀ (args : Array Value) (w : World), (callFunc 41 args).run Tryd.prog w = .ok (.enter 41 args) w) := Lib.hid (enters Tryd.func41 (by kernel_rfl) (by kernel_rfl))
  clear hx hy hl0 ha0 eb hv1 hv2 hok hk en em
  go_enter Tryd.func48, Tryd.ntmps48
  go_wp2_with fail
  obtain ⟨w0, hw0⟩ : ∃ w0 : World, w0 = (w.alloc (.cells #[.slice A m c, .slice B n d] 26)).alloc (.cells #[.int .i64 k.space, .int .i64 k.page] 45) := ⟨_, rfl⟩
  obtain ⟨gt, hgt⟩ : ∃ gt : Nat, gt = w.heap.size := ⟨_, rfl⟩
  obtain ⟨gk, hgk⟩ : ∃ gk : Nat, gk = w.heap.size + 1 := ⟨_, rfl⟩
  have K0 : Hid (Blk w0 gt 26 [.slice A m c, .slice B n d]) := Lib.hid (by rw [hw0, hgt]; exact (Blk.new w _ _).alloc _)
  have K1 : Hid (Blk w0 gk 45 [.int .i64 k.space, .int .i64 k.page]) := Lib.hid (by rw [hw0, hgk]; exact Blk.new_at _ _ _ (by simp))
  have E0 : Hid (Ex w w0) := Lib.hid (by rw [hw0]; exact ((Ex.refl w).alloc _).alloc _)
  rw [← hw0]
  try rw [← hgk]
  rw [← hgt]
  clear hw0 hgt hgk
  have FK : Hid (∀ w', Ex w0 w' → (w'.cell? ⟨gt, 0, none⟩ = some (.slice A m c) ∧ w'.cell? ⟨gt, 1, none⟩ = some (.slice B n d) ∧ w'.cell? ⟨gk, 0, none⟩ = some (.int .i64 k.space) ∧ w'.cell? ⟨gk, 1, none⟩ = some (.int .i64 k.page))) := Lib.hid (fun w' h => ⟨(K0.out.ex h).c2.1, (K0.out.ex h).c2.2, (K1.out.ex h).c2.1, (K1.out.ex h).c2.2⟩)
  refine wp_region_held_drew (S := (fun w' => (w'.cell? ⟨gt, 0, none⟩ = some (.slice A m c) ∧ w'.cell? ⟨gt, 1, none⟩ = some (.slice B n d) ∧ w'.cell? ⟨gk, 0, none⟩ = some (.int .i64 k.space) ∧ w'.cell? ⟨gk, 1, none⟩ = some (.int .i64 k.page)))) (by kernel_rfl) ?r0_hS0 (fun hHeld => ?_)
  case r0_hS0 => exact FK.out _ (Ex.refl _).drew
  refine tk 0 ?_; refine tk 1 ?_; refine tk 2 ?_; refine tk 3 ?_; refine tk 4 ?_
  refine wpAnyH_ready (rs := [5]) (by kernel_rfl) (by simp) ?_
  refine AllReadyH.cons (o := ?r0_o5) ?r0_ho5 (fun K hK => ?_) AllReadyH.nil
  case r0_ho5 => (conv => lhs; whnf; arg 1; whnf)
  refine step_call_gu rfl CES.out _ _ rfl #[.agg #[.int .i64 k.space, .int .i64 k.page], .int .i64 m] rfl (CH.out _) ?_; rintro r wa ⟨rfl, hwa⟩; refine ⟨_, rfl, ?_⟩; have hxa := Ex.trans (Ex.refl _).drew hwa
  refine hK.out _ _ ?r0_hS5 (fun hHeld5 => ?_)
  case r0_hS5 => exact FK.out _ hxa
  clear hK K hHeld
  try simp only [Act.put, List.setIfInBounds_toArray, List.set_cons_zero, List.set_cons_succ]
  refine wpAnyH_ready (rs := [6]) (by kernel_rfl) (by simp) ?_
  refine AllReadyH.cons (o := ?r0_o6) ?r0_ho6 (fun K hK => ?_) AllReadyH.nil
  case r0_ho6 => (conv => lhs; whnf; arg 1; whnf)
  refine step_call_gu rfl CEC.out _ _ rfl #[.agg #[.slice A m c, .slice B n d], .int .i64 b] rfl (CC.out _ (HX.out.ex (E0.out.trans hxa)) (HY.out.ex (E0.out.trans hxa))) ?_; rintro r w3 ⟨l, ok, A3, c3, rfl, hok3, hno3, hll, hrd, he⟩; obtain rfl : ok = true := (by cases ok; exact absurd HL0.out (hno3 rfl _); rfl); have e : l0 = l := HL0.out.one (hok3 rfl); subst e; refine ⟨_, rfl, ?_⟩; have hx3 := Ex.trans hxa he
  refine hK.out _ _ ?r0_hS6 (fun hHeld6 => ?_)
  case r0_hS6 => exact FK.out _ hx3
  clear hK K hHeld5
  try simp only [Act.put, List.setIfInBounds_toArray, List.set_cons_zero, List.set_cons_succ]
  refine tk 7 ?_; refine tk 8 ?_; refine tk 9 ?_; refine tk 10 ?_; refine tk 11 ?_
  refine wpAnyH_done (by kernel_rfl) ?_ _
  have HX3 := Lib.hid hx3
  have HRD := Lib.hid hrd
  have hll' : l0.length ≤ n := by have := HN.out; omega
  clear hx3 hxa he hwa hno3 hok3 hll hrd
  go_wp2
  go_loopw [8] (fun i wq => ∃ j : Nat, j ≤ l0.length ∧ i = .int .i64 j ∧ Ex w3 wq ∧ ∀ (j' x : Nat) (f : FrameD), j' < j → l0[j']? = some x → t.frames[x]? = some f → f.key ≠ k) (fun i _ => l0.length - (intOf i).toNat)
  case atStart => exact ⟨0, Nat.zero_le _, rfl, Ex.refl _, fun j' x f h => by omega⟩
  case round =>
    obtain ⟨j, hj, rfl, hq, hall⟩ := hrel
    have HQ := Lib.hid (HX3.out.trans hq)
    have HQ3 := Lib.hid hq
    have HALL := Lib.hid hall
    clear hq hall
    by_cases hjl : j < l0.length
    · obtain ⟨b5, o5, y, rfl, hb5, hyj, hcy⟩ := (HRD.out.ex HQ3.out).int (k := j) (by rw [nums_len]; exact hjl)
      obtain ⟨x, hxj⟩ : ∃ x, l0[j]? = some x := ⟨_, List.getElem?_eq_getElem hjl⟩
      have e : y = (x : Int) := by unfold nums at hyj; rw [List.getElem?_map, hxj] at hyj; injection hyj with e; exact e.symm
      subst e
      obtain ⟨f, hfx, hfu⟩ := HL0.out.in_ (List.mem_of_getElem? hxj)
      have hxn : x < n := by have := getElem?_lt hfx; have := HN.out; omega
      obtain ⟨b2, o2, f', rfl, hb2, hfx', k0, k1, k2, k3, k4⟩ := (HY.out.ex (E0.out.trans HQ.out)).frame (k := x) (by have := HN.out; omega)
      have e : f' = f := by rw [hfx] at hfx'; injection hfx' with e; exact e.symm
      subst e
      have HXJ := Lib.hid hxj
      have HFX := Lib.hid hfx
      have HFU := Lib.hid hfu
      have FK2 : Hid (∀ w', Ex wr w' → (w'.cell? ⟨gt, 1, none⟩ = some (.slice (some ⟨b2, o2, none⟩) n d) ∧ w'.cell? ⟨gk, 0, none⟩ = some (.int .i64 k.space) ∧ w'.cell? ⟨gk, 1, none⟩ = some (.int .i64 k.page) ∧ w'.cell? ⟨b5, o5 + j, none⟩ = some (.int .i64 x) ∧ w'.cell? ⟨b2, o2 + x * 5 + 1, none⟩ = some (.int .i64 f'.key.space) ∧ w'.cell? ⟨b2, o2 + x * 5 + 2, none⟩ = some (.int .i64 f'.key.page))) := Lib.hid (fun w' h => ⟨(K0.out.ex (HQ.out.trans h)).c2.2, (K1.out.ex (HQ.out.trans h)).c2.1, (K1.out.ex (HQ.out.trans h)).c2.2, (h.cell hb5).trans hcy, (h.cell hb2).trans k1, (h.cell hb2).trans k2⟩)
      have hz := eql_keyV f'.key k
      have hgd := guardKeyV
      clear hyj hxj hfx hfx' k0 k1 k2 k3 k4 hcy hfu hb2 hb5
      cases hek : eqB f'.key k
      · rw [hek] at hz
        have HEK := Lib.hid (eqB_false.1 hek)
        clear hek
        go_wp2_with fail
        refine wp_region_held_drew (S := (fun w' => (w'.cell? ⟨gt, 1, none⟩ = some (.slice (some ⟨b2, o2, none⟩) n d) ∧ w'.cell? ⟨gk, 0, none⟩ = some (.int .i64 k.space) ∧ w'.cell? ⟨gk, 1, none⟩ = some (.int .i64 k.page) ∧ w'.cell? ⟨b5, o5 + j, none⟩ = some (.int .i64 x) ∧ w'.cell? ⟨b2, o2 + x * 5 + 1, none⟩ = some (.int .i64 f'.key.space) ∧ w'.cell? ⟨b2, o2 + x * 5 + 2, none⟩ = some (.int .i64 f'.key.page)))) (by kernel_rfl) ?r1_hS0 (fun hHeld => ?_)
        case r1_hS0 => exact FK2.out _ (Ex.refl _).drew
        refine tk 0 ?_; refine tk 1 ?_; refine tk 2 ?_; refine tk 3 ?_; refine tk 4 ?_; refine tk 5 ?_; refine tk 6 ?_; refine tk 7 ?_; refine tk 8 ?_; refine tk 9 ?_; refine tk 10 ?_
        refine wpAnyH_done (by kernel_rfl) ?_ _
        clear hz hgd
        go_wp2
        go_roundw
        case rel => exact ⟨j + 1, by omega, by go_num, HQ3.out.drew, fun j' x' g hj' hx' hg => by
          by_cases e : j' = j
          · subst e
            rw [HXJ.out] at hx'
            injection hx' with hx'
            subst hx'
            rw [HFX.out] at hg
            injection hg with hg
            subst hg
            exact HEK.out
          · exact HALL.out j' x' g (by omega) hx' hg⟩
        case measure => simp [intOf]; omega
      · rw [hek] at hz
        obtain rfl : res = (x : Int) := HIT.out x f' HFX.out HFU.out (eqB_true.1 hek)
        clear hek
        obtain ⟨m0, m1, m2, m3, m4, m5⟩ := FK2.out wr.drew (Ex.refl _).drew
        clear m0 m1 m2 m4 m5
        go_wp2_with fail
        refine wp_region_held_drew (S := (fun w' => (w'.cell? ⟨gt, 1, none⟩ = some (.slice (some ⟨b2, o2, none⟩) n d) ∧ w'.cell? ⟨gk, 0, none⟩ = some (.int .i64 k.space) ∧ w'.cell? ⟨gk, 1, none⟩ = some (.int .i64 k.page) ∧ w'.cell? ⟨b5, o5 + j, none⟩ = some (.int .i64 x) ∧ w'.cell? ⟨b2, o2 + x * 5 + 1, none⟩ = some (.int .i64 f'.key.space) ∧ w'.cell? ⟨b2, o2 + x * 5 + 2, none⟩ = some (.int .i64 f'.key.page)))) (by kernel_rfl) ?r2_hS0 (fun hHeld => ?_)
        case r2_hS0 => exact FK2.out _ (Ex.refl _).drew
        refine tk 0 ?_; refine tk 1 ?_; refine tk 2 ?_; refine tk 3 ?_; refine tk 4 ?_; refine tk 5 ?_; refine tk 6 ?_; refine tk 7 ?_; refine tk 8 ?_; refine tk 9 ?_; refine tk 10 ?_
        refine wpAnyH_done (by kernel_rfl) ?_ _
        clear hz hgd
        go_wp2
        go_ret2
        exact ⟨⟨_, rfl⟩, (E0.out.trans HQ.out).drew⟩
    · obtain rfl : j = l0.length := by omega
      obtain rfl : res = -1 := HMISS.out l0 HL0.out (fun x f hx hf => by
        obtain ⟨j', hj', e⟩ := List.getElem_of_mem hx
        exact HALL.out j' x f hj' (by rw [List.getElem?_eq_getElem hj', e]) hf)
      go_wp2
      go_ret2
      exact ⟨⟨_, rfl⟩, E0.out.trans HQ.out⟩

end Go.Proofs.YtbdlpbladpppjaaDoor
/- The reference's CacheValid: the walk. -/
namespace Go.Proofs.YtbdlpbladpppjaaDoor
open Go.ChangeShapes Go.WideShapes Go.ChangeAt Go.RowKit
open Rec (sz cs)
set_option linter.unusedVariables false
set_option maxRecDepth 100000

end Go.Proofs.YtbdlpbladpppjaaDoor
/- Finding a line: place, l4Find, FindLine. -/
namespace Go.Proofs.YtbdlpbladpppjaaDoor
open Go.ChangeShapes Go.WideShapes Go.ChangeAt Go.RowKit
open Rec (sz cs)
set_option linter.unusedVariables false
set_option maxRecDepth 100000

end Go.Proofs.YtbdlpbladpppjaaDoor
/- The place of a line: the implementation's method and the library's IndexFunc. -/
namespace Go.Proofs.YtbdlpbladpppjaaDoor
open Go.ChangeShapes Go.WideShapes Go.ChangeAt Go.RowKit
open Rec (sz cs)
set_option linter.unusedVariables false
set_option maxRecDepth 100000

end Go.Proofs.YtbdlpbladpppjaaDoor
/- The line that is replaced next: VictimOf of both sides. -/
namespace Go.Proofs.YtbdlpbladpppjaaDoor
open Go.ChangeShapes Go.WideShapes Go.ChangeAt Go.RowKit
open Rec (sz cs)
set_option linter.unusedVariables false
set_option maxRecDepth 100000

end Go.Proofs.YtbdlpbladpppjaaDoor
/- Copies of caches: slices.Clone, slices.Clip, with; l4Copy. -/
namespace Go.Proofs.YtbdlpbladpppjaaDoor
open Go.ChangeShapes Go.WideShapes Go.ChangeAt Go.RowKit
open Rec (sz cs)
set_option linter.unusedVariables false
set_option maxRecDepth 100000

end Go.Proofs.YtbdlpbladpppjaaDoor
/- The reference's copy of a cache. -/
namespace Go.Proofs.YtbdlpbladpppjaaDoor
open Go.ChangeShapes Go.WideShapes Go.ChangeAt Go.RowKit
open Rec (sz cs)
set_option linter.unusedVariables false
set_option maxRecDepth 100000

end Go.Proofs.YtbdlpbladpppjaaDoor
/- WireLine: the model and the implementation's walk. -/
namespace Go.Proofs.YtbdlpbladpppjaaDoor
open Go.ChangeShapes Go.WideShapes Go.ChangeAt Go.RowKit
open Rec (sz cs)
set_option linter.unusedVariables false
set_option maxRecDepth 100000

end Go.Proofs.YtbdlpbladpppjaaDoor
/- Plain laws of caches: what validity says, what dropping, wiring, filling keep. No walk in sight. -/
namespace Go.Proofs.YtbdlpbladpppjaaDoor
open Go.ChangeShapes Go.WideShapes Go.ChangeAt Go.RowKit
set_option linter.unusedVariables false

theorem clashB_comm (x y : LineD) : clashB x y = clashB y x := by
  unfold clashB
  rw [Bool.eq_iff_iff]
  simp only [Bool.and_eq_true, Bool.or_eq_true, beq_iff_eq]
  constructor <;> (rintro ⟨a, b, c, d⟩; refine ⟨b, a, c.symm, ?_⟩; rcases d with d | d | d <;> simp [d])

structure CV (c : CacheD) : Prop where
  n1 : 1 ≤ c.lines.length
  n8 : c.lines.length ≤ 8
  h0 : 0 ≤ c.hand
  h1 : c.hand < c.lines.length
  ok : ∀ (i : Nat) (x : LineD), c.lines[i]? = some x → lineV x = true
  ap : ∀ (i j : Nat) (x y : LineD), i ≠ j → c.lines[i]? = some x → c.lines[j]? = some y → clashB x y = false
  lo : ∃ (i : Nat) (x : LineD), c.lines[i]? = some x ∧ x.wired = false

theorem get_set_cases {α : Type} {xs : List α} {k i : Nat} {x y : α} (h : (xs.set k x)[i]? = some y) : (i = k ∧ y = x ∧ k < xs.length) ∨ (i ≠ k ∧ xs[i]? = some y) := by
  by_cases e : i = k
  · subst e
    have hl := getElem?_lt h
    rw [List.length_set] at hl
    rw [List.getElem?_set_self hl] at h
    injection h with h
    exact .inl ⟨rfl, h.symm, hl⟩
  · rw [List.getElem?_set_ne (fun q => e q.symm)] at h
    exact .inr ⟨e, h⟩

/-- One line is laid anew. -/
theorem CV.set {t : CacheD} (h : CV t) {v : Nat} {x : LineD} {hd : Int} (h0 : 0 ≤ hd) (h1 : hd < t.lines.length) (hx : lineV x = true)
    (hc : ∀ (j : Nat) (y : LineD), j ≠ v → t.lines[j]? = some y → clashB x y = false) (hl : ∃ (i : Nat) (y : LineD), (t.lines.set v x)[i]? = some y ∧ y.wired = false) : CV ⟨t.lines.set v x, hd⟩ := by
  refine ⟨by simpa using h.n1, by simpa using h.n8, h0, by simpa using h1, fun i y hy => ?_, fun i j y z hij hy hz => ?_, hl⟩
  · rcases get_set_cases hy with ⟨_, rfl, _⟩ | ⟨_, hy⟩
    · exact hx
    · exact h.ok i y hy
  · rcases get_set_cases hy with ⟨e1, rfl, _⟩ | ⟨e1, hy'⟩ <;> rcases get_set_cases hz with ⟨e2, rfl, _⟩ | ⟨e2, hz'⟩
    · omega
    · exact hc j z e2 hz'
    · rw [clashB_comm]; exact hc i y e1 hy'
    · exact h.ap i j y z hij hy' hz'

/-! ### Dropping -/
end Go.Proofs.YtbdlpbladpppjaaDoor
/- Valid tables: putting a key into a free frame, and taking it out again, keep a table valid. Plain Lean, no walk in sight. -/
namespace Go.Proofs.YtbdlpbladpppjaaDoor
open Go.ChangeShapes Go.WideShapes Go.ChangeAt Go.RowKit
set_option linter.unusedVariables false

theorem sub_len : ∀ (l1 l2 : List Nat), l1.Nodup → (∀ x ∈ l1, x ∈ l2) → l1.length ≤ l2.length := by
  intro l1
  induction l1 with
  | nil => intro l2 _ _; exact Nat.zero_le _
  | cons a l ih =>
    intro l2 hn hs
    obtain ⟨hn1, hn2⟩ := List.nodup_cons.1 hn
    have ha : a ∈ l2 := hs a (by simp)
    have h1 := ih (l2.erase a) hn2 (fun y hy => (List.mem_erase_of_ne (fun e2 => hn1 (by rw [← e2]; exact hy))).2 (hs y (List.mem_cons_of_mem _ hy)))
    rw [List.length_erase_of_mem ha] at h1
    have := List.length_pos_of_mem ha
    simp
    omega

/-- A valid table, told without counting. -/
structure TOk (t : TableD) : Prop where
  head : TableHead t
  up : FramesUp t.frames t.frames.length
  ch : ∀ (b : Nat) (a : Int), t.buckets[b]? = some a → ∃ l, Chain t.frames a l ∧ ∀ (i : Nat) (f : FrameD), i ∈ l → t.frames[i]? = some f → hashK f.key t.buckets.length = b
  met : ∀ (i : Nat) (f : FrameD), t.frames[i]? = some f → f.used = true → ∃ (b : Nat) (a : Int) (l : List Nat), t.buckets[b]? = some a ∧ Chain t.frames a l ∧ i ∈ l

theorem TOk.of {t : TableD} (h : TableOk t) : TOk t :=
  ⟨h.1, h.2.1, fun b a ha => h.bucket ha, fun i f hf hu => by
    obtain ⟨b, a, l, h1, h2, h3, _⟩ := h.met hf hu
    exact ⟨b, a, l, h1, h2, h3⟩⟩
theorem usedIx_nodup (fs : List FrameD) (k : Nat) : (usedIx fs k).Nodup := by
  unfold usedIx
  exact List.Nodup.sublist List.filter_sublist List.nodup_range
theorem TOk.lists {t : TableD} (h : TOk t) : ∀ k, k ≤ t.buckets.length → ∃ ls, Buckets t k ls := by
  intro k
  induction k with
  | zero => intro _; exact ⟨[], Buckets.zero t⟩
  | succ k ih =>
    intro hk
    obtain ⟨ls, hls⟩ := ih (by omega)
    have ha := List.getElem?_eq_getElem (l := t.buckets) (i := k) (by omega)
    obtain ⟨l, h1, h2⟩ := h.ch k _ ha
    exact ⟨_, hls.succ ha h1 h2⟩
theorem TOk.ok {t : TableD} (h : TOk t) : TableOk t := by
  obtain ⟨ls, hls⟩ := h.lists _ (Nat.le_refl _)
  refine ⟨h.head, h.up, ls, hls, ?_⟩
  have hfl : sumL ls = ls.flatten.length := by rw [List.length_flatten]; rfl
  rw [hfl, ← usedIx_len _ _ (Nat.le_refl _)]
  refine Nat.le_antisymm (sub_len _ _ hls.nodup fun x hx => ?_) (sub_len _ _ (usedIx_nodup _ _) fun x hx => ?_)
  · obtain ⟨l, hl, hx⟩ := List.mem_flatten.1 hx
    obtain ⟨b, hb', e⟩ := List.getElem_of_mem hl
    obtain ⟨a, _, _, hc, _⟩ := hls.at_ (Nat.le_refl _) (b := b) (l := l) (by rw [List.getElem?_eq_getElem hb', e])
    obtain ⟨g, hg, hgu⟩ := hc.in_ hx
    exact mem_usedIx.2 ⟨getElem?_lt hg, g, hg, hgu⟩
  · obtain ⟨hlt, f, hf, hu⟩ := mem_usedIx.1 hx
    obtain ⟨b, a, l, ha, hc, hi⟩ := h.met x f hf hu
    have hb : b < ls.length := by rw [hls.1]; exact getElem?_lt ha
    obtain ⟨h1, _⟩ := hls.2 b a ls[b] (getElem?_lt ha) ha (List.getElem?_eq_getElem hb)
    rw [hc.one h1] at hi
    exact List.mem_flatten.2 ⟨_, List.getElem_mem hb, hi⟩

/-! ### Who is where -/
theorem findF_at {t : TableD} {k : KeyD} {i : Nat} (h : findF t k = (i : Int)) : ∃ f, t.frames[i]? = some f ∧ f.used = true ∧ f.key = k := by
  unfold findF at h
  rcases firstOf_cases (fitsKey k) t.frames with ⟨e, _⟩ | ⟨x, f, e, hf, hp, _⟩
  · omega
  · have e2 : x = i := by omega
    subst e2
    unfold fitsKey at hp
    rw [Bool.and_eq_true] at hp
    exact ⟨f, hf, hp.1, eqB_true.1 hp.2⟩
theorem findF_neg {t : TableD} {k : KeyD} (h : findF t k < 0) {i : Nat} {f : FrameD} (hf : t.frames[i]? = some f) (hu : f.used = true) : f.key ≠ k := by
  unfold findF at h
  rcases firstOf_cases (fitsKey k) t.frames with ⟨_, e⟩ | ⟨x, f, e, _⟩
  · have := e i f hf
    unfold fitsKey at this
    rw [hu, Bool.true_and] at this
    exact eqB_false.1 this
  · omega
theorem findF_or {t : TableD} (k : KeyD) : findF t k = -1 ∨ ∃ (x : Nat) (f : FrameD), findF t k = (x : Int) ∧ t.frames[x]? = some f ∧ f.used = true ∧ f.key = k := by
  rcases findF_range (t := t) k with h | ⟨x, f, h, hf⟩
  · exact .inl h
  · obtain ⟨g, hg, h1, h2⟩ := findF_at h
    exact .inr ⟨x, g, h, hg, h1, h2⟩
theorem findF_none {t : TableD} {k : KeyD} (h : ∀ (i : Nat) (f : FrameD), t.frames[i]? = some f → f.used = true → f.key ≠ k) : findF t k = -1 := by
  rcases findF_or (t := t) k with e | ⟨x, f, _, hf, hu, hk⟩
  · exact e
  · exact absurd hk (h x f hf hu)

/-! ### Putting a key in -/
def bkOf (t : TableD) (k : KeyD) : Nat := (hashK k t.buckets.length).toNat
def linkT (t : TableD) (k : KeyD) (i : Nat) (rt : Int) : TableD := ⟨t.buckets.set (bkOf t k) (i : Int), t.frames.set i ⟨true, k, rt, t.buckets.getD (bkOf t k) 0⟩⟩
def putsT (t : TableD) (k : KeyD) (i : Nat) : Bool := !(t.frames.getD i freeF).used && decide (findF t k < 0)
def mapT (t : TableD) (k : KeyD) (i : Nat) (rt : Int) : TableD × Bool := if putsT t k i = true then (linkT t k i rt, true) else (noTable, false)

theorem bkOf_lt {t : TableD} (h : TableHead t) {k : KeyD} (hk : keyOk k) : bkOf t k < t.buckets.length ∧ hashK k t.buckets.length = (bkOf t k : Int) := by
  have := hashK_range hk h.2.1 h.2.2
  unfold bkOf
  omega
theorem Chain.set_free {fs : List FrameD} {a : Int} {l : List Nat} (h : Chain fs a l) {i : Nat} (g : FrameD) (hi : i ∉ l) : Chain (fs.set i g) a l := by
  induction h with
  | nil => exact .nil
  | @cons j f l hf hu hl ih =>
    simp only [List.mem_cons, not_or] at hi
    exact .cons (by rw [List.getElem?_set_ne hi.1]; exact hf) hu (ih hi.2)
theorem linkT_get {t : TableD} {k : KeyD} {i : Nat} {rt : Int} {j : Nat} {f : FrameD} (h : (linkT t k i rt).frames[j]? = some f) : (j = i ∧ f = ⟨true, k, rt, t.buckets.getD (bkOf t k) 0⟩ ∧ i < t.frames.length) ∨ (j ≠ i ∧ t.frames[j]? = some f) := get_set_cases h
theorem linkT_ok {t : TableD} (h : TableOk t) {k : KeyD} {i : Nat} {rt : Int} (hk : keyOk k) (hr : 0 ≤ rt ∧ rt < 8) {f : FrameD} (hf : t.frames[i]? = some f) (hu : f.used = false) (hn : findF t k < 0) : TableOk (linkT t k i rt) := by
  have hb := bkOf_lt h.1 hk
  have hi := getElem?_lt hf
  have hlb : (linkT t k i rt).buckets.length = t.buckets.length := by unfold linkT; simp
  have hlf : (linkT t k i rt).frames.length = t.frames.length := by unfold linkT; simp
  have T := TOk.of h
  have hnot : ∀ (a : Int) (l : List Nat), Chain t.frames a l → i ∉ l := fun a l hc hm => by
    obtain ⟨g, hg, hgu⟩ := hc.in_ hm
    rw [hf] at hg
    injection hg with hg
    subst hg
    rw [hu] at hgu
    cases hgu
  have hba := List.getElem?_eq_getElem hb.1
  obtain ⟨l0, hc0, hh0⟩ := T.ch _ _ hba
  have hgd : t.buckets.getD (bkOf t k) 0 = t.buckets[bkOf t k] := by rw [List.getD_eq_getElem?_getD, hba]; rfl
  have hnew : Chain (linkT t k i rt).frames (i : Int) (i :: l0) := by
    refine .cons (f := ⟨true, k, rt, t.buckets.getD (bkOf t k) 0⟩) (by unfold linkT; exact List.getElem?_set_self hi) rfl ?_
    rw [hgd]
    exact hc0.set_free _ (hnot _ _ hc0)
  refine TOk.ok ⟨?_, ?_, ?_, ?_⟩
  · unfold TableHead
    rw [hlb, hlf]
    exact h.1
  · intro j g hj hg
    rcases linkT_get hg with ⟨rfl, rfl, _⟩ | ⟨hne, hg'⟩
    · refine ⟨⟨(fun e => by cases e), fun _ => ⟨hk, hr⟩⟩, fun j' g' hj' hg' _ hu' => ?_⟩
      rcases linkT_get hg' with ⟨rfl, _, _⟩ | ⟨_, hg2⟩
      · omega
      · exact findF_neg hn hg2 hu'
    · have h1 := h.2.1 j g (getElem?_lt hg') hg'
      refine ⟨h1.1, fun j' g' hj' hg2 hu1 hu2 => ?_⟩
      rcases linkT_get hg2 with ⟨rfl, rfl, _⟩ | ⟨_, hg3⟩
      · exact fun e => findF_neg hn hg' hu1 e.symm
      · exact h1.2 j' g' hj' hg3 hu1 hu2
  · intro b a hba'
    rw [hlb]
    rcases get_set_cases (show (t.buckets.set (bkOf t k) (i : Int))[b]? = some a from hba') with ⟨rfl, rfl, _⟩ | ⟨hne, hba2⟩
    · refine ⟨i :: l0, hnew, fun j g hj hg => ?_⟩
      rcases linkT_get hg with ⟨rfl, rfl, _⟩ | ⟨hne, hg'⟩
      · exact hb.2
      · rcases List.mem_cons.1 hj with e | e
        · exact absurd e hne
        · exact hh0 j g e hg'
    · obtain ⟨l, hc, hh⟩ := T.ch b a hba2
      refine ⟨l, hc.set_free _ (hnot _ _ hc), fun j g hj hg => ?_⟩
      rcases linkT_get hg with ⟨rfl, rfl, _⟩ | ⟨_, hg'⟩
      · exact absurd hj (hnot _ _ hc)
      · exact hh j g hj hg'
  · intro j g hg hgu
    rcases linkT_get hg with ⟨rfl, rfl, _⟩ | ⟨hne, hg'⟩
    · exact ⟨bkOf t k, _, _, by unfold linkT; exact List.getElem?_set_self hb.1, hnew, by simp⟩
    · obtain ⟨b, a, l, ha, hc, hm⟩ := T.met j g hg' hgu
      by_cases e : b = bkOf t k
      · subst e
        rw [hba] at ha
        injection ha with ha
        subst ha
        rw [hc.one hc0] at hm
        exact ⟨bkOf t k, _, _, by unfold linkT; exact List.getElem?_set_self hb.1, hnew, by simp [hm]⟩
      · exact ⟨b, a, l, by unfold linkT; simp only; rw [List.getElem?_set_ne (fun q => e q.symm)]; exact ha, hc.set_free _ (hnot _ _ hc), hm⟩
theorem linkT_keep {t : TableD} {k : KeyD} {i : Nat} {rt : Int} {j : Nat} {f g : FrameD} (hf : t.frames[i]? = some f) (hu : f.used = false) (hg : t.frames[j]? = some g) (hgu : g.used = true) : (linkT t k i rt).frames[j]? = some g := by
  have hne : i ≠ j := by
    rintro rfl
    rw [hf] at hg
    injection hg with hg
    subst hg
    rw [hu] at hgu
    cases hgu
  unfold linkT
  simp only
  rw [List.getElem?_set_ne hne]
  exact hg

/-! ### Taking a key out -/
def skipF (i : Nat) (nx : Int) (f : FrameD) : FrameD := if f.used = true ∧ f.next = (i : Int) then { f with next := nx } else f
/-- The frames behind the loop that goes on over the first n of them. -/
def skipTo (fs : List FrameD) (i : Nat) (nx : Int) (n : Nat) : List FrameD := fs.mapIdx fun j f => if j = i then freeF else if j < n then skipF i nx f else f
def unlinkT (t : TableD) (i : Nat) : TableD :=
  if t.buckets.getD (bkOf t (t.frames.getD i freeF).key) 0 = (i : Int) then ⟨t.buckets.set (bkOf t (t.frames.getD i freeF).key) (t.frames.getD i freeF).next, t.frames.set i freeF⟩
  else ⟨t.buckets, skipTo t.frames i (t.frames.getD i freeF).next t.frames.length⟩
theorem skipTo_length (fs : List FrameD) (i : Nat) (nx : Int) (n : Nat) : (skipTo fs i nx n).length = fs.length := by unfold skipTo; simp
theorem skipTo_get {fs : List FrameD} {i : Nat} {nx : Int} {n j : Nat} {f : FrameD} (h : fs[j]? = some f) : (skipTo fs i nx n)[j]? = some (if j = i then freeF else if j < n then skipF i nx f else f) := by
  unfold skipTo
  rw [List.getElem?_mapIdx, h]
  rfl
theorem skipF_facts (i : Nat) (nx : Int) (f : FrameD) : (skipF i nx f).used = f.used ∧ (skipF i nx f).key = f.key ∧ (skipF i nx f).rights = f.rights := by
  unfold skipF
  split <;> exact ⟨rfl, rfl, rfl⟩
/-- A chain that goes through i goes on behind it. -/
theorem Chain.skip {fs fs' : List FrameD} {i : Nat} {nx : Int} (hi : ∀ f, fs[i]? = some f → f.next = nx) (ho : ∀ (j : Nat) (f : FrameD), j ≠ i → fs[j]? = some f → f.used = true → fs'[j]? = some (skipF i nx f)) {a : Int} {l : List Nat} (h : Chain fs a l) :
    Chain fs' (if a = (i : Int) then nx else a) (l.filter (fun j => decide (j ≠ i))) := by
  induction h with
  | nil => rw [if_neg (by omega)]; exact .nil
  | @cons j f l hf hu hl ih =>
    by_cases e : j = i
    · subst e
      have hn := hi f hf
      rw [if_pos rfl, List.filter_cons_of_neg (by simp)]
      rw [hn] at ih
      split at ih <;> exact ih
    · rw [if_neg (by omega), List.filter_cons_of_pos (by simp [e])]
      refine .cons (ho j f e hf hu) (by rw [(skipF_facts i nx f).1]; exact hu) ?_
      have h2 : (skipF i nx f).next = if f.next = (i : Int) then nx else f.next := by
        unfold skipF
        rw [hu]
        by_cases e2 : f.next = (i : Int)
        · rw [if_pos ⟨rfl, e2⟩, if_pos e2]
        · rw [if_neg (fun q => e2 q.2), if_neg e2]
      rw [h2]
      exact ih
/-- What the table is behind it, told in one way. -/
theorem unlinkT_facts {t : TableD} (h : TableOk t) {i : Nat} {f : FrameD} (hf : t.frames[i]? = some f) (hu : f.used = true) :
    (unlinkT t i).buckets.length = t.buckets.length ∧ (unlinkT t i).frames.length = t.frames.length ∧ (unlinkT t i).frames[i]? = some freeF ∧
    (∀ (j : Nat) (g : FrameD), j ≠ i → t.frames[j]? = some g → ∃ g', (unlinkT t i).frames[j]? = some g' ∧ g'.used = g.used ∧ g'.key = g.key ∧ g'.rights = g.rights ∧ (g.used = false → g' = g) ∧ (g.used = true → g' = skipF i f.next g)) ∧
    (∀ (b : Nat) (a : Int), t.buckets[b]? = some a → (unlinkT t i).buckets[b]? = some (if a = (i : Int) then f.next else a)) := by
  have T := TOk.of h
  have hi := getElem?_lt hf
  have hfk : keyOk f.key := (((h.2.1 i f hi hf).1).2 hu).1
  have hb := bkOf_lt h.1 hfk
  have hgd : t.frames.getD i freeF = f := getD_of hf
  obtain ⟨b0, a0, l0, ha0, hc0, hm0, hh0⟩ := h.met hf hu
  have hb0 : b0 = bkOf t f.key := by have := hb.2; omega
  subst hb0
  have hbd : t.buckets.getD (bkOf t f.key) 0 = a0 := getD_of ha0
  have hother : ∀ (b : Nat) (a : Int), t.buckets[b]? = some a → b ≠ bkOf t f.key → a ≠ (i : Int) := fun b a ha hne e => by
    obtain ⟨l, hc, hh⟩ := T.ch b a ha
    subst e
    rcases hc.inv with ⟨e, _⟩ | ⟨j, g, l3, e, e2, hg, hgu, _⟩
    · omega
    · have e3 : i = j := by omega
      subst e3
      have := hh i f (by rw [e2]; simp) hf
      omega
  unfold unlinkT
  rw [hgd, hbd]
  by_cases e : a0 = (i : Int)
  · rw [if_pos e]
    subst e
    have hno : ∀ (j : Nat) (g : FrameD), t.frames[j]? = some g → g.used = true → g.next ≠ (i : Int) := fun j g hg hgu e => by
      obtain ⟨b, a, l, ha, hc, hm, hh⟩ := h.met hg hgu
      obtain ⟨l2, hc2, hlen⟩ := hc.from hm
      rcases hc2.inv with ⟨e1, _⟩ | ⟨j', g', l3, e1, e2, hg', _, hc3⟩
      · omega
      · have e3 : j = j' := by omega
        subst e3
        rw [hg] at hg'
        injection hg' with hg'
        subst hg'
        injection e2 with _ e2
        subst e2
        rw [e] at hc3
        have e4 := hc3.one hc0
        subst e4
        have hb' : b = bkOf t f.key := by
          have hjl : i ∈ l := by
            have : ∀ {a : Int} {l : List Nat}, Chain t.frames a l → ∀ {j : Nat} {l2 : List Nat}, j ∈ l → Chain t.frames (j : Int) (j :: l2) → ∀ x ∈ l2, x ∈ l := by
              intro a l hc
              induction hc with
              | nil => intro j l2 hj; cases hj
              | @cons p q r hq hqu hr ih =>
                intro j l2 hj hc2 x hx
                rcases List.mem_cons.1 hj with e | e
                · subst e
                  have := (Chain.cons hq hqu hr).one hc2
                  injection this with _ this
                  rw [this]
                  exact List.mem_cons_of_mem _ hx
                · exact List.mem_cons_of_mem _ (ih e hc2 x hx)
            exact this hc hm hc2 i hm0
          have hx := (T.ch b a ha)
          obtain ⟨lx, hcx, hhx⟩ := hx
          rw [hc.one hcx] at hjl
          have := hhx i f hjl hf
          omega
        subst hb'
        rw [ha0] at ha
        injection ha with ha
        subst ha
        rw [hc.one hc0] at hlen
        simp at hlen
    refine ⟨by simp, by simp, List.getElem?_set_self hi, fun j g hne hg => ⟨g, by simp only; rw [List.getElem?_set_ne (fun q => hne q.symm)]; exact hg, rfl, rfl, rfl, fun _ => rfl, fun hgu => ?_⟩, fun b a ha => ?_⟩
    · unfold skipF
      rw [if_neg (fun q => hno j g hg hgu q.2)]
    · by_cases eb : b = bkOf t f.key
      · subst eb
        rw [ha0] at ha
        injection ha with ha
        subst ha
        rw [if_pos rfl]
        exact List.getElem?_set_self hb.1
      · rw [if_neg (hother b a ha eb)]
        simp only
        rw [List.getElem?_set_ne (fun q => eb q.symm)]
        exact ha
  · rw [if_neg e]
    refine ⟨rfl, skipTo_length _ _ _ _, by rw [skipTo_get hf, if_pos rfl], fun j g hne hg => ?_, fun b a ha => ?_⟩
    · refine ⟨skipF i f.next g, by rw [skipTo_get hg, if_neg hne, if_pos (getElem?_lt hg)], (skipF_facts _ _ _).1, (skipF_facts _ _ _).2.1, (skipF_facts _ _ _).2.2, fun hgu => ?_, fun _ => rfl⟩
      unfold skipF
      rw [if_neg (fun q => by rw [hgu] at q; cases q.1)]
    · by_cases eb : b = bkOf t f.key
      · subst eb
        rw [ha0] at ha
        injection ha with ha
        subst ha
        rw [if_neg e]
        exact ha0
      · rw [if_neg (hother b a ha eb)]
        exact ha
theorem unlinkT_ok {t : TableD} (h : TableOk t) {i : Nat} {f : FrameD} (hf : t.frames[i]? = some f) (hu : f.used = true) : TableOk (unlinkT t i) := by
  obtain ⟨hlb, hlf, hfree, hoth, hbk⟩ := unlinkT_facts h hf hu
  have T := TOk.of h
  have back : ∀ (j : Nat) (g' : FrameD), (unlinkT t i).frames[j]? = some g' → (j = i ∧ g' = freeF) ∨ (j ≠ i ∧ ∃ g, t.frames[j]? = some g ∧ g'.used = g.used ∧ g'.key = g.key ∧ g'.rights = g.rights ∧ (g.used = false → g' = g)) := by
    intro j g' hg'
    by_cases e : j = i
    · subst e
      rw [hfree] at hg'
      injection hg' with hg'
      exact .inl ⟨rfl, hg'.symm⟩
    · have hlt := getElem?_lt hg'
      rw [hlf] at hlt
      have hg := List.getElem?_eq_getElem hlt
      obtain ⟨g2, h1, h2, h3, h4, h5, _⟩ := hoth j _ e hg
      rw [h1] at hg'
      injection hg' with hg'
      subst hg'
      exact .inr ⟨e, _, hg, h2, h3, h4, h5⟩
  have hch : ∀ {a : Int} {l : List Nat}, Chain t.frames a l → Chain (unlinkT t i).frames (if a = (i : Int) then f.next else a) (l.filter (fun j => decide (j ≠ i))) := fun hc =>
    hc.skip (fun g hg => by rw [hf] at hg; injection hg with hg; rw [hg]) (fun j g hne hg hgu => by
      obtain ⟨g', h1, _, _, _, _, h2⟩ := hoth j g hne hg
      rw [h1, h2 hgu])
  refine TOk.ok ⟨?_, ?_, ?_, ?_⟩
  · unfold TableHead
    rw [hlb, hlf]
    exact h.1
  · intro j g' hj hg'
    rcases back j g' hg' with ⟨rfl, rfl⟩ | ⟨hne, g, hg, h1, h2, h3, h4⟩
    · exact ⟨⟨fun _ => rfl, fun e => by cases e⟩, fun j' g2 _ _ e => by cases e⟩
    · have h5 := h.2.1 j g (getElem?_lt hg) hg
      refine ⟨⟨fun e => ?_, fun e => ?_⟩, fun j' g2 hj' hg2 hu1 hu2 => ?_⟩
      · have e' : g.used = false := by rw [← h1]; exact e
        rw [h4 e']
        exact h5.1.1 e'
      · rw [h2, h3]
        exact h5.1.2 (by rw [← h1]; exact e)
      · rcases back j' g2 hg2 with ⟨rfl, rfl⟩ | ⟨hne', g3, hg3, k1, k2, _⟩
        · cases hu2
        · rw [h2, k2]
          exact h5.2 j' g3 hj' hg3 (by rw [← h1]; exact hu1) (by rw [← k1]; exact hu2)
  · intro b a' ha'
    rw [hlb]
    have hlt := getElem?_lt ha'
    rw [hlb] at hlt
    have ha := List.getElem?_eq_getElem hlt
    rw [hbk b _ ha] at ha'
    injection ha' with ha'
    subst ha'
    obtain ⟨l, hc, hh⟩ := T.ch b _ ha
    refine ⟨_, hch hc, fun j g' hj hg' => ?_⟩
    rw [List.mem_filter] at hj
    rcases back j g' hg' with ⟨rfl, _⟩ | ⟨_, g, hg, _, h2, _⟩
    · simp at hj
    · rw [h2]
      exact hh j g hj.1 hg
  · intro j g' hg' hgu'
    rcases back j g' hg' with ⟨rfl, rfl⟩ | ⟨hne, g, hg, h1, _⟩
    · cases hgu'
    · obtain ⟨b, a, l, ha, hc, hm⟩ := T.met j g hg (by rw [← h1]; exact hgu')
      exact ⟨b, _, _, hbk b a ha, hch hc, List.mem_filter.2 ⟨hm, by simpa using hne⟩⟩
/-! ### A new table -/
theorem newTable_ok {f b : Int} (hf : 1 ≤ f ∧ f ≤ 16) (hb : 1 ≤ b ∧ b ≤ 16) : (newTable f b).2 = true ∧ TableOk (newTable f b).1 ∧ (newTable f b).1.frames.length = f.toNat ∧ (newTable f b).1.buckets.length = b.toNat := by
  have e : newTable f b = (⟨List.replicate b.toNat (-1), List.replicate f.toNat freeF⟩, true) := by unfold newTable; rw [if_pos ⟨hf, hb⟩]
  rw [e]
  have hfr : ∀ (i : Nat) (g : FrameD), (List.replicate f.toNat freeF)[i]? = some g → g = freeF := fun i g hg => by
    rw [List.getElem?_replicate] at hg
    split at hg
    · injection hg with hg; exact hg.symm
    · cases hg
  refine ⟨rfl, TOk.ok ⟨?_, ?_, ?_, ?_⟩, by simp, by simp⟩
  · unfold TableHead
    simp only [List.length_replicate]
    omega
  · intro i g hi hg
    have := hfr i g hg
    subst this
    exact ⟨⟨fun _ => rfl, fun e => by cases e⟩, fun j g' _ _ e => by cases e⟩
  · intro i a ha
    simp only [List.getElem?_replicate] at ha
    split at ha
    · injection ha with ha
      subst ha
      exact ⟨[], .nil, fun i f hi => by cases hi⟩
    · cases ha
  · intro i g hg hu
    have := hfr i g hg
    subst this
    cases hu
end Go.Proofs.YtbdlpbladpppjaaDoor
/- Mapping a page in a table: the reference's l3Map, MapPage; a table comes back, of the same lengths. -/
namespace Go.Proofs.YtbdlpbladpppjaaDoor
open Go.ChangeShapes Go.WideShapes Go.ChangeAt Go.RowKit
open Rec (sz cs)
set_option linter.unusedVariables false
set_option maxRecDepth 100000

theorem Bk.ne {α β : Type} [Rec α] [Rec β] {w : World} {E E' : TypeId} {g g' : Nat} {xs : List α} {ys : List β} {r r' : List Value} (h : Bk E w g xs r) (h' : Bk E' w g' ys r') (hE : E ≠ E') : g ≠ g' := by
  rintro rfl
  have h1 : w.heap[g]? = _ := h
  have h2 : w.heap[g]? = _ := h'
  rw [h1] at h2
  injection h2 with h2
  injection h2 with h2 h3
  exact hE h3

/-- That table comes back, in slices of the call's own. -/
def TabIs (q : TableD) (w : World) (e : Ending) (w' : World) : Prop := ∃ (A : Option Addr) (c : Nat) (B : Option Addr) (d : Nat), e = .returned (.agg #[.slice A q.buckets.length c, .slice B q.frames.length d]) ∧ Fr 3 w' w.heap.size A c q.buckets ∧ Fr 47 w' w.heap.size B d q.frames ∧ Ex w w'
/-- That table and that word come back. -/
def TabOr (q : TableD × Bool) (w : World) (e : Ending) (w' : World) : Prop := ∃ (A : Option Addr) (c : Nat) (B : Option Addr) (d : Nat), e = .returned (.tuple #[.agg #[.slice A q.1.buckets.length c, .slice B q.1.frames.length d], .bool q.2]) ∧ Fr 3 w' w.heap.size A c q.1.buckets ∧ Fr 47 w' w.heap.size B d q.1.frames ∧ Ex w w'

set_option maxHeartbeats 4000000 in
theorem l3Map_c (t : TableD) (A : Option Addr) (c : Nat) (B : Option Addr) (d : Nat) (k : KeyD) (i : Nat) (rt : Int) (w : World) (hx : Rd w A t.buckets) (hy : Rd w B t.frames) (hc : t.buckets.length ≤ c) (hd : t.frames.length ≤ d) (hc2 : c ≤ maxLen) (hd2 : d ≤ maxLen)
    (hm1 : 1 ≤ t.buckets.length) (hm2 : t.buckets.length ≤ 16) (hn2 : t.frames.length ≤ 16) (hi : i < t.frames.length) (hk : keyOk k) :
    Calls Tryd.prog 19 #[.agg #[.slice A t.buckets.length c, .slice B t.frames.length d], .agg #[.int .i64 k.space, .int .i64 k.page], .int .i64 i, .int .i64 rt] w (TabIs (linkT t k i rt) w) := by
  obtain ⟨hv1, hv2⟩ := hashK_range (n := t.buckets.length) hk hm1 hm2
  obtain ⟨b, eb⟩ : ∃ b : Nat, hashK k t.buckets.length = (b : Int) := ⟨(hashK k t.buckets.length).toNat, by omega⟩
  have hbm : b < t.buckets.length := by omega
  have HX := Lib.hid hx
  have HY := Lib.hid hy
  have C1 := Lib.hid (fun w' (h : Ex w w') => l3Copy_c t A c B d w' (hx.ex h) (hy.ex h) (by omega) (by omega) hc hd hc2 hd2)
  have CH := Lib.hid (fun w => hashS_c k (t.buckets.length : Int) w hk (by omega) (by omega))
  rw [eb] at CH
  have hix := List.getElem?_eq_getElem hi
  have hbx := List.getElem?_eq_getElem hbm
  have HQ : Hid (linkT t k i rt = ⟨t.buckets.set b (i : Int), t.frames.set i ⟨true, k, rt, t.buckets[b]⟩⟩) := Lib.hid (by unfold linkT bkOf; rw [eb, Int.toNat_natCast, getD_of hbx])
  have HFIN : Hid (∀ (A' B' : Option Addr) (c' d' : Nat) (w' : World), Fr 3 w' w.heap.size A' c' (t.buckets.set b (i : Int)) → Fr 47 w' w.heap.size B' d' (t.frames.set i ⟨true, k, rt, t.buckets[b]⟩) → Ex w w' → TabIs (linkT t k i rt) w (.returned (.agg #[.slice A' t.buckets.length c', .slice B' t.frames.length d'])) w') := Lib.hid (fun A' B' c' d' w' h1 h2 h3 => by rw [HQ.out]; exact ⟨A', c', B', d', by simp, h1, h2, h3⟩)
  clear HQ
  generalize t.frames[i] = f at hix
  generalize t.buckets[b] = x at hbx HFIN
  obtain ⟨xs, ys⟩ := t
  dsimp only at hix hbx C1 CH HFIN hi hbm hm1 hm2 hn2 ⊢
  have HIX := Lib.hid hix
  have HBX := Lib.hid hbx
  have hi' : (i : Int) < (ys.length : Int) := by omega
  have hb' : (b : Int) < (xs.length : Int) := by omega
  have hi0 : ¬ (i : Int) < 0 := by omega
  have hb0 : ¬ (b : Int) < 0 := by omega
  clear hx hy hv1 hv2 eb hk hix hbx
  go_enter Tryd.func19, Tryd.ntmps19
  go_wp2_with fail
  refine name_calls ?_; intro v1 hv1
  have X1 : Hid (Chg (0) (0) w v1) := Lib.hid (by rw [hv1]; repeat' (first | with_reducible exact Chg.refl _ _ _ | with_reducible refine Chg.alloc ?_ _ | with_reducible refine Chg.drew ?_ | with_reducible refine Chg.set ?_ (by omega) _))
  have t1 : w.heap.size ≤ v1.heap.size := X1.out.size
  have Ev1 : Hid (Ex w v1) := Lib.hid ((Ex.refl w).chg X1.out (by omega))
  have KX : Hid (Blk v1 (w.heap.size) 26 [.slice A xs.length c, .slice B ys.length d]) := Lib.hid (by rw [hv1]; repeat' (first | with_reducible exact Blk.new_at _ _ _ (by simp) | with_reducible refine Blk.alloc ?_ _ | with_reducible refine Blk.drew ?_ | with_reducible refine Blk.far ?_ (by simp; omega) _))
  have lX : w.heap.size < v1.heap.size := KX.out.lt
  have KK : Hid (Blk v1 (w.heap.size + 1) 45 [.int .i64 k.space, .int .i64 k.page]) := Lib.hid (by rw [hv1]; repeat' (first | with_reducible exact Blk.new_at _ _ _ (by simp) | with_reducible refine Blk.alloc ?_ _ | with_reducible refine Blk.drew ?_ | with_reducible refine Blk.far ?_ (by simp; omega) _))
  have lK : w.heap.size + 1 < v1.heap.size := KK.out.lt
  have KR : Hid (Blk v1 (w.heap.size + 1 + 1) 26 [.slice none 0 0, .slice none 0 0]) := Lib.hid (by rw [hv1]; repeat' (first | with_reducible exact Blk.new_at _ _ _ (by simp) | with_reducible refine Blk.alloc ?_ _ | with_reducible refine Blk.drew ?_ | with_reducible refine Blk.far ?_ (by simp; omega) _))
  have lR : w.heap.size + 1 + 1 < v1.heap.size := KR.out.lt
  clear hv1
  refine (C1.out _ X1.out.ex_).mono ?_; rintro r w1 ⟨A1, c1, B1, d1, rfl, hfa, hfb, hb1⟩
  have Y1 : Hid (Chg 0 0 v1 w1) := Lib.hid (Chg.of_ex hb1)
  have s1 : v1.heap.size ≤ w1.heap.size := Y1.out.size
  have Ew1 : Hid (Ex w w1) := Lib.hid (Ev1.out.chg Y1.out (by omega))
  clear hb1
  replace KX := Lib.hid (KX.out.chg Y1.out (by omega))
  replace KK := Lib.hid (KK.out.chg Y1.out (by omega))
  replace KR := Lib.hid (KR.out.chg Y1.out (by omega))
  have HFA := Lib.hid hfa; clear hfa
  have WHFA := Lib.hid HFA.out.row
  have HFB := Lib.hid hfb; clear hfb
  have WHFB := Lib.hid HFB.out.row
  obtain ⟨qX0, qX1⟩ := KX.out.c2
  have jX := KX.out.lt
  obtain ⟨qK0, qK1⟩ := KK.out.c2
  have jK := KK.out.lt
  obtain ⟨qR0, qR1⟩ := KR.out.c2
  have jR := KR.out.lt
  have zR := KR.out.frozen
  go_wp2_with fail
  refine name_calls ?_; intro v2 hv2
  have X2 : Hid (Chg (0) (0) w1 v2) := Lib.hid (by rw [hv2]; repeat' (first | with_reducible exact Chg.refl _ _ _ | with_reducible refine Chg.alloc ?_ _ | with_reducible refine Chg.drew ?_ | with_reducible refine Chg.set ?_ (by omega) _))
  have t2 : w1.heap.size ≤ v2.heap.size := X2.out.size
  have Ev2 : Hid (Ex w v2) := Lib.hid (Ew1.out.chg X2.out (by omega))
  clear qX0 qX1 jX
  clear qK0 qK1 jK
  clear qR0 qR1 jR zR
  replace KX := Lib.hid (KX.out.chg X2.out (by omega))
  replace KK := Lib.hid (KK.out.chg X2.out (by omega))
  replace KR := Lib.hid (KR.out.chg X2.out (by omega))
  replace HFA := Lib.hid (HFA.out.chg X2.out WHFA.out (by omega))
  replace HFB := Lib.hid (HFB.out.chg X2.out WHFB.out (by omega))
  have KO : Hid (Blk v2 (w1.heap.size) 26 [.slice A1 xs.length c1, .slice B1 ys.length d1]) := Lib.hid (by rw [hv2]; repeat' (first | with_reducible exact Blk.new_at _ _ _ (by simp) | with_reducible refine Blk.alloc ?_ _ | with_reducible refine Blk.drew ?_ | with_reducible refine Blk.far ?_ (by simp; omega) _))
  have lO : w1.heap.size < v2.heap.size := KO.out.lt
  clear hv2
  refine (CH.out _).mono ?_; rintro r w2 ⟨rfl, hb2⟩
  have Y2 : Hid (Chg 0 0 v2 w2) := Lib.hid (Chg.of_ex hb2)
  have s2 : v2.heap.size ≤ w2.heap.size := Y2.out.size
  have Ew2 : Hid (Ex w w2) := Lib.hid (Ev2.out.chg Y2.out (by omega))
  clear hb2
  replace KX := Lib.hid (KX.out.chg Y2.out (by omega))
  replace KK := Lib.hid (KK.out.chg Y2.out (by omega))
  replace KR := Lib.hid (KR.out.chg Y2.out (by omega))
  replace KO := Lib.hid (KO.out.chg Y2.out (by omega))
  replace HFA := Lib.hid (HFA.out.chg Y2.out WHFA.out (by omega))
  replace HFB := Lib.hid (HFB.out.chg Y2.out WHFB.out (by omega))
  obtain ⟨qX0, qX1⟩ := KX.out.c2
  have jX := KX.out.lt
  obtain ⟨qK0, qK1⟩ := KK.out.c2
  have jK := KK.out.lt
  obtain ⟨qR0, qR1⟩ := KR.out.c2
  have jR := KR.out.lt
  have zR := KR.out.frozen
  obtain ⟨qO0, qO1⟩ := KO.out.c2
  have jO := KO.out.lt
  obtain ⟨gb, rb, hA1, hgb, hbb, hrb⟩ := HFA.out.open_ hbm
  obtain ⟨gf, rf, hB1, hgf, hbf, hrf⟩ := HFB.out.open_ hi
  subst hA1 hB1
  have HBB := Lib.hid hbb
  have HBF := Lib.hid hbf
  have HRB := Lib.hid hrb
  have HRF := Lib.hid hrf
  have hlb := HFA.out.le
  have hlf := HFB.out.le
  have hcb := HFA.out.cap
  have hcf := HFB.out.cap
  have hgbl : gb < w1.heap.size := (WHFA.out gb (rowOf_some (by omega))).2
  have hgfl : gf < w1.heap.size := (WHFB.out gf (rowOf_some (by omega))).2
  have hne := Bk.ne hbb hbf (by decide)
  have hne' : ¬ gf = gb := fun e => hne e.symm
  clear hbb hbf hrb hrf
  clear HFA WHFA
  clear HFB WHFB
  have v0 := HBB.out.int HBX.out
  obtain ⟨d0, d1', d2', d3, d4⟩ := HBF.out.frame HIX.out
  have zb := HBB.out.frozen
  have zf := HBF.out.frozen
  have lb := Blk.lt HBB.out
  have lf := Blk.lt HBF.out
  have n1 : ¬ w1.heap.size = gf := by omega
  have n2 : ¬ gf = w1.heap.size := by omega
  have n3 : ¬ w1.heap.size = gb := by omega
  have n4 : ¬ gb = w1.heap.size := by omega
  have n5 : ¬ w.heap.size + 1 + 1 = gf := by omega
  have n6 : ¬ gf = w.heap.size + 1 + 1 := by omega
  have n7 : ¬ w.heap.size + 1 + 1 = gb := by omega
  have n8 : ¬ gb = w.heap.size + 1 + 1 := by omega
  have n9 : ¬ w.heap.size + 1 + 1 = w1.heap.size := by omega
  have n10 : ¬ w1.heap.size = w.heap.size + 1 + 1 := by omega
  have n11 : ¬ w.heap.size + 1 = gf := by omega
  have n12 : ¬ gf = w.heap.size + 1 := by omega
  have FK : Hid (∀ w', Ex w2 w' → (w'.cell? ⟨w1.heap.size, 0, none⟩ = some (.slice (some ⟨gb, 0, none⟩) xs.length c1) ∧ w'.cell? ⟨w1.heap.size, 1, none⟩ = some (.slice (some ⟨gf, 0, none⟩) ys.length d1) ∧ w'.cell? ⟨w.heap.size + 1, 0, none⟩ = some (.int .i64 k.space) ∧ w'.cell? ⟨w.heap.size + 1, 1, none⟩ = some (.int .i64 k.page) ∧ w'.cell? ⟨gb, b, none⟩ = some (.int .i64 x))) := Lib.hid (fun w' h => ⟨(KO.out.ex h).c2.1, (KO.out.ex h).c2.2, (KK.out.ex h).c2.1, (KK.out.ex h).c2.2, (HBB.out.ex h).int HBX.out⟩)
  go_wp2_with fail
  go_region_held3 (fun w' => (w'.cell? ⟨w1.heap.size, 0, none⟩ = some (.slice (some ⟨gb, 0, none⟩) xs.length c1) ∧ w'.cell? ⟨w1.heap.size, 1, none⟩ = some (.slice (some ⟨gf, 0, none⟩) ys.length d1) ∧ w'.cell? ⟨w.heap.size + 1, 0, none⟩ = some (.int .i64 k.space) ∧ w'.cell? ⟨w.heap.size + 1, 1, none⟩ = some (.int .i64 k.page) ∧ w'.cell? ⟨gb, b, none⟩ = some (.int .i64 x))) (first | (refine FK.out _ ?_; with_reducible (first | exact Ex.refl _ | exact (Ex.refl _).drew)) | go_keep) (fail)
  rename_i hHeld
  clear hHeld
  go_wp2
  refine bodyPost_ret (v := .agg #[.slice (some ⟨gb, 0, none⟩) xs.length c1, .slice (some ⟨gf, 0, none⟩) ys.length d1]) (by first | (simp [results, Tryd.results19, go_sem, *]; done) | (simp [results, Tryd.results19, go_sem, qR0, qR1]; done)) rfl
    (HFIN.out _ _ _ _ _ ?_ ?_ (by repeat' (first | with_reducible exact Ew2.out | with_reducible refine Ex.alloc ?_ _ | with_reducible refine Ex.drew ?_ | with_reducible refine Ex.put ?_ (by omega) _)))
  · refine Fr.close (xs := xs.set b (i : Int)) (rest := rb) ?_ (by omega) (by simpa using HRB.out) (by simpa using hlb) hcb
    repeat' (first | with_reducible refine Bk.drew ?_ | with_reducible refine Bk.far ?_ hne _ | with_reducible refine Bk.far ?_ hne' _ | with_reducible refine Bk.far ?_ n8 _ | with_reducible refine Bk.far ?_ n6 _)
    with_reducible refine Bk.set_int ?_ _ hbm
    repeat' (first | with_reducible refine Bk.drew ?_ | with_reducible refine Bk.far ?_ hne _ | with_reducible refine Bk.far ?_ hne' _ | with_reducible refine Bk.far ?_ n8 _ | with_reducible refine Bk.far ?_ n6 _)
    exact HBB.out
  · refine Fr.close (xs := ys.set i ⟨true, k, rt, x⟩) (rest := rf) ?_ (by omega) (by simpa using HRF.out) (by simpa using hlf) hcf
    repeat' (first | with_reducible refine Bk.drew ?_ | with_reducible refine Bk.far ?_ hne _ | with_reducible refine Bk.far ?_ hne' _ | with_reducible refine Bk.far ?_ n8 _ | with_reducible refine Bk.far ?_ n6 _)
    with_reducible refine Bk.set_frame ?_ ⟨true, k, rt, x⟩ hi
    exact HBF.out
end Go.Proofs.YtbdlpbladpppjaaDoor
/- FindPage and MapPage of the reference, over a valid table. -/
namespace Go.Proofs.YtbdlpbladpppjaaDoor
open Go.ChangeShapes Go.WideShapes Go.ChangeAt Go.RowKit
open Rec (sz cs)
set_option linter.unusedVariables false
set_option maxRecDepth 100000

def FoundP (q : Int) (w : World) (e : Ending) (w' : World) : Prop := ∃ s : Int, e = .returned (.tuple #[.int .i64 (if q < 0 then 0 else q), .int .i64 s, .bool (decide (0 ≤ q))]) ∧ Ex w w'

set_option maxHeartbeats 2000000 in
theorem findPageS_c (t : TableD) (A : Option Addr) (c : Nat) (B : Option Addr) (d : Nat) (k : KeyD) (w : World) (hx : Rd w A t.buckets) (hy : Rd w B t.frames) (hok : TableOk t) (hk : keyOk k) :
    Calls Tryd.prog 49 #[.agg #[.slice A t.buckets.length c, .slice B t.frames.length d], .agg #[.int .i64 k.space, .int .i64 k.page]] w (FoundP (findF t k) w) := by
  have few := hok.1
  unfold TableHead at few
  have C1 := Lib.hid (fun w' (h : Ex w w') => tableS_c t A c B d w' (hx.ex h) (hy.ex h) (by omega) (by omega))
  have C2 := Lib.hid (fun w' => keyS_c k w')
  have C3 := Lib.hid (fun w' (h : Ex w w') => l3Find_c t A c B d k w' (hx.ex h) (hy.ex h) hok hk)
  rw [tableV_yes hok] at C1
  rw [keyB_iff.2 hk] at C2
  generalize findF t k = q at C3 ⊢
  generalize t.buckets.length = nb at C1 C3 ⊢
  generalize t.frames.length = n at C1 C3 ⊢
  clear hx hy hok hk few
  by_cases hq : q < 0
  · have hz : ¬ 0 ≤ q := by omega
    have HR : Hid (∀ s : Int, (Value.tuple #[.int .i64 0, .int .i64 s, .bool false]) = (.tuple #[.int .i64 (if q < 0 then 0 else q), .int .i64 s, .bool (decide (0 ≤ q))])) := Lib.hid (fun s => by rw [if_pos hq, decide_eq_false hz])
    go_enter Tryd.func49, Tryd.ntmps49
    go_wp2_with fail
    refine name_calls ?_; intro v1 hv1
    have X1 : Hid (Chg (0) (0) w v1) := Lib.hid (by rw [hv1]; repeat' (first | with_reducible exact Chg.refl _ _ _ | with_reducible refine Chg.alloc ?_ _ | with_reducible refine Chg.drew ?_ | with_reducible refine Chg.set ?_ (by omega) _))
    have t1 : w.heap.size ≤ v1.heap.size := X1.out.size
    have Ev1 : Hid (Ex w v1) := Lib.hid ((Ex.refl w).chg X1.out (by omega))
    have KX : Hid (Blk v1 (w.heap.size) 26 [.slice A nb c, .slice B n d]) := Lib.hid (by rw [hv1]; repeat' (first | with_reducible exact Blk.new_at _ _ _ (by simp) | with_reducible refine Blk.alloc ?_ _ | with_reducible refine Blk.drew ?_ | with_reducible refine Blk.far ?_ (by simp; omega) _))
    have lX : w.heap.size < v1.heap.size := KX.out.lt
    have KK : Hid (Blk v1 (w.heap.size + 1) 45 [.int .i64 k.space, .int .i64 k.page]) := Lib.hid (by rw [hv1]; repeat' (first | with_reducible exact Blk.new_at _ _ _ (by simp) | with_reducible refine Blk.alloc ?_ _ | with_reducible refine Blk.drew ?_ | with_reducible refine Blk.far ?_ (by simp; omega) _))
    have lK : w.heap.size + 1 < v1.heap.size := KK.out.lt
    clear hv1
    refine (C1.out _ Ev1.out).mono ?_; rintro r w1 ⟨rfl, hb1⟩
    have Y1 : Hid (Chg 0 0 v1 w1) := Lib.hid (Chg.of_ex hb1)
    have s1 : v1.heap.size ≤ w1.heap.size := Y1.out.size
    have Ew1 : Hid (Ex w w1) := Lib.hid (Ev1.out.chg Y1.out (by omega))
    clear hb1
    replace KX := Lib.hid (KX.out.chg Y1.out (by omega))
    replace KK := Lib.hid (KK.out.chg Y1.out (by omega))
    obtain ⟨qX0, qX1⟩ := KX.out.c2
    have jX := KX.out.lt
    obtain ⟨qK0, qK1⟩ := KK.out.c2
    have jK := KK.out.lt
    go_wp2_with fail
    refine name_calls ?_; intro v2 hv2
    have X2 : Hid (Chg (0) (0) w1 v2) := Lib.hid (by rw [hv2]; repeat' (first | with_reducible exact Chg.refl _ _ _ | with_reducible refine Chg.alloc ?_ _ | with_reducible refine Chg.drew ?_ | with_reducible refine Chg.set ?_ (by omega) _))
    have t2 : w1.heap.size ≤ v2.heap.size := X2.out.size
    have Ev2 : Hid (Ex w v2) := Lib.hid (Ew1.out.chg X2.out (by omega))
    clear qX0 qX1 jX
    clear qK0 qK1 jK
    replace KX := Lib.hid (KX.out.chg X2.out (by omega))
    replace KK := Lib.hid (KK.out.chg X2.out (by omega))
    clear hv2
    refine (C2.out _).mono ?_; rintro r w2 ⟨rfl, hb2⟩
    have Y2 : Hid (Chg 0 0 v2 w2) := Lib.hid (Chg.of_ex hb2)
    have s2 : v2.heap.size ≤ w2.heap.size := Y2.out.size
    have Ew2 : Hid (Ex w w2) := Lib.hid (Ev2.out.chg Y2.out (by omega))
    clear hb2
    replace KX := Lib.hid (KX.out.chg Y2.out (by omega))
    replace KK := Lib.hid (KK.out.chg Y2.out (by omega))
    obtain ⟨qX0, qX1⟩ := KX.out.c2
    have jX := KX.out.lt
    obtain ⟨qK0, qK1⟩ := KK.out.c2
    have jK := KK.out.lt
    go_wp2_with fail
    refine name_calls ?_; intro v3 hv3
    have X3 : Hid (Chg (0) (0) w2 v3) := Lib.hid (by rw [hv3]; repeat' (first | with_reducible exact Chg.refl _ _ _ | with_reducible refine Chg.alloc ?_ _ | with_reducible refine Chg.drew ?_ | with_reducible refine Chg.set ?_ (by omega) _))
    have t3 : w2.heap.size ≤ v3.heap.size := X3.out.size
    have Ev3 : Hid (Ex w v3) := Lib.hid (Ew2.out.chg X3.out (by omega))
    clear qX0 qX1 jX
    clear qK0 qK1 jK
    replace KX := Lib.hid (KX.out.chg X3.out (by omega))
    replace KK := Lib.hid (KK.out.chg X3.out (by omega))
    clear hv3
    refine (C3.out _ Ev3.out).mono ?_; rintro r w3 ⟨⟨sp, rfl⟩, hb3⟩
    have Y3 : Hid (Chg 0 0 v3 w3) := Lib.hid (Chg.of_ex hb3)
    have s3 : v3.heap.size ≤ w3.heap.size := Y3.out.size
    have Ew3 : Hid (Ex w w3) := Lib.hid (Ev3.out.chg Y3.out (by omega))
    clear hb3
    replace KX := Lib.hid (KX.out.chg Y3.out (by omega))
    replace KK := Lib.hid (KK.out.chg Y3.out (by omega))
    obtain ⟨qX0, qX1⟩ := KX.out.c2
    have jX := KX.out.lt
    obtain ⟨qK0, qK1⟩ := KK.out.c2
    have jK := KK.out.lt
    go_wp2
    exact bodyPost_ret (v := .tuple #[.int .i64 0, .int .i64 sp, .bool false]) (by simp [results, Tryd.results49, go_sem]) rfl ⟨sp, by rw [HR.out], Ew3.out⟩
  · have hz : 0 ≤ q := by omega
    have HR : Hid (∀ s : Int, (Value.tuple #[.int .i64 q, .int .i64 s, .bool true]) = (.tuple #[.int .i64 (if q < 0 then 0 else q), .int .i64 s, .bool (decide (0 ≤ q))])) := Lib.hid (fun s => by rw [if_neg hq, decide_eq_true hz])
    go_enter Tryd.func49, Tryd.ntmps49
    go_wp2_with fail
    refine name_calls ?_; intro v1 hv1
    have X1 : Hid (Chg (0) (0) w v1) := Lib.hid (by rw [hv1]; repeat' (first | with_reducible exact Chg.refl _ _ _ | with_reducible refine Chg.alloc ?_ _ | with_reducible refine Chg.drew ?_ | with_reducible refine Chg.set ?_ (by omega) _))
    have t1 : w.heap.size ≤ v1.heap.size := X1.out.size
    have Ev1 : Hid (Ex w v1) := Lib.hid ((Ex.refl w).chg X1.out (by omega))
    have KX : Hid (Blk v1 (w.heap.size) 26 [.slice A nb c, .slice B n d]) := Lib.hid (by rw [hv1]; repeat' (first | with_reducible exact Blk.new_at _ _ _ (by simp) | with_reducible refine Blk.alloc ?_ _ | with_reducible refine Blk.drew ?_ | with_reducible refine Blk.far ?_ (by simp; omega) _))
    have lX : w.heap.size < v1.heap.size := KX.out.lt
    have KK : Hid (Blk v1 (w.heap.size + 1) 45 [.int .i64 k.space, .int .i64 k.page]) := Lib.hid (by rw [hv1]; repeat' (first | with_reducible exact Blk.new_at _ _ _ (by simp) | with_reducible refine Blk.alloc ?_ _ | with_reducible refine Blk.drew ?_ | with_reducible refine Blk.far ?_ (by simp; omega) _))
    have lK : w.heap.size + 1 < v1.heap.size := KK.out.lt
    clear hv1
    refine (C1.out _ Ev1.out).mono ?_; rintro r w1 ⟨rfl, hb1⟩
    have Y1 : Hid (Chg 0 0 v1 w1) := Lib.hid (Chg.of_ex hb1)
    have s1 : v1.heap.size ≤ w1.heap.size := Y1.out.size
    have Ew1 : Hid (Ex w w1) := Lib.hid (Ev1.out.chg Y1.out (by omega))
    clear hb1
    replace KX := Lib.hid (KX.out.chg Y1.out (by omega))
    replace KK := Lib.hid (KK.out.chg Y1.out (by omega))
    obtain ⟨qX0, qX1⟩ := KX.out.c2
    have jX := KX.out.lt
    obtain ⟨qK0, qK1⟩ := KK.out.c2
    have jK := KK.out.lt
    go_wp2_with fail
    refine name_calls ?_; intro v2 hv2
    have X2 : Hid (Chg (0) (0) w1 v2) := Lib.hid (by rw [hv2]; repeat' (first | with_reducible exact Chg.refl _ _ _ | with_reducible refine Chg.alloc ?_ _ | with_reducible refine Chg.drew ?_ | with_reducible refine Chg.set ?_ (by omega) _))
    have t2 : w1.heap.size ≤ v2.heap.size := X2.out.size
    have Ev2 : Hid (Ex w v2) := Lib.hid (Ew1.out.chg X2.out (by omega))
    clear qX0 qX1 jX
    clear qK0 qK1 jK
    replace KX := Lib.hid (KX.out.chg X2.out (by omega))
    replace KK := Lib.hid (KK.out.chg X2.out (by omega))
    clear hv2
    refine (C2.out _).mono ?_; rintro r w2 ⟨rfl, hb2⟩
    have Y2 : Hid (Chg 0 0 v2 w2) := Lib.hid (Chg.of_ex hb2)
    have s2 : v2.heap.size ≤ w2.heap.size := Y2.out.size
    have Ew2 : Hid (Ex w w2) := Lib.hid (Ev2.out.chg Y2.out (by omega))
    clear hb2
    replace KX := Lib.hid (KX.out.chg Y2.out (by omega))
    replace KK := Lib.hid (KK.out.chg Y2.out (by omega))
    obtain ⟨qX0, qX1⟩ := KX.out.c2
    have jX := KX.out.lt
    obtain ⟨qK0, qK1⟩ := KK.out.c2
    have jK := KK.out.lt
    go_wp2_with fail
    refine name_calls ?_; intro v3 hv3
    have X3 : Hid (Chg (0) (0) w2 v3) := Lib.hid (by rw [hv3]; repeat' (first | with_reducible exact Chg.refl _ _ _ | with_reducible refine Chg.alloc ?_ _ | with_reducible refine Chg.drew ?_ | with_reducible refine Chg.set ?_ (by omega) _))
    have t3 : w2.heap.size ≤ v3.heap.size := X3.out.size
    have Ev3 : Hid (Ex w v3) := Lib.hid (Ew2.out.chg X3.out (by omega))
    clear qX0 qX1 jX
    clear qK0 qK1 jK
    replace KX := Lib.hid (KX.out.chg X3.out (by omega))
    replace KK := Lib.hid (KK.out.chg X3.out (by omega))
    clear hv3
    refine (C3.out _ Ev3.out).mono ?_; rintro r w3 ⟨⟨sp, rfl⟩, hb3⟩
    have Y3 : Hid (Chg 0 0 v3 w3) := Lib.hid (Chg.of_ex hb3)
    have s3 : v3.heap.size ≤ w3.heap.size := Y3.out.size
    have Ew3 : Hid (Ex w w3) := Lib.hid (Ev3.out.chg Y3.out (by omega))
    clear hb3
    replace KX := Lib.hid (KX.out.chg Y3.out (by omega))
    replace KK := Lib.hid (KK.out.chg Y3.out (by omega))
    obtain ⟨qX0, qX1⟩ := KX.out.c2
    have jX := KX.out.lt
    obtain ⟨qK0, qK1⟩ := KK.out.c2
    have jK := KK.out.lt
    go_wp2
    exact bodyPost_ret (v := .tuple #[.int .i64 q, .int .i64 sp, .bool true]) (by simp [results, Tryd.results49, go_sem]) rfl ⟨sp, by rw [HR.out], Ew3.out⟩

set_option maxHeartbeats 4000000 in
theorem mapPageS_c (t : TableD) (A : Option Addr) (c : Nat) (B : Option Addr) (d : Nat) (k : KeyD) (i : Nat) (rt : Int) (w : World) (hx : Rd w A t.buckets) (hy : Rd w B t.frames) (hc : t.buckets.length ≤ c) (hd : t.frames.length ≤ d) (hc2 : c ≤ maxLen) (hd2 : d ≤ maxLen)
    (hok : TableOk t) (hk : keyOk k) (hr : 0 ≤ rt ∧ rt < 8) (hi : i < t.frames.length) :
    Calls Tryd.prog 31 #[.agg #[.slice A t.buckets.length c, .slice B t.frames.length d], .agg #[.int .i64 k.space, .int .i64 k.page], .int .i64 i, .int .i64 rt] w (TabOr (mapT t k i rt) w) := by
  have few := hok.1
  unfold TableHead at few
  have C1 := Lib.hid (fun w' (h : Ex w w') => tableS_c t A c B d w' (hx.ex h) (hy.ex h) (by omega) (by omega))
  have C2 := Lib.hid (fun w' => keyS_c k w')
  have C3 := Lib.hid (fun w' => rightsS_c rt w')
  have C4 := Lib.hid (fun w' (h : Ex w w') => l3Find_c t A c B d k w' (hx.ex h) (hy.ex h) hok hk)
  have C5 := Lib.hid (fun w' (h : Ex w w') => l3Map_c t A c B d k i rt w' (hx.ex h) (hy.ex h) hc hd hc2 hd2 (by omega) (by omega) (by omega) hi hk)
  rw [tableV_yes hok] at C1
  rw [keyB_iff.2 hk] at C2
  rw [inB_true.2 hr] at C3
  obtain ⟨b2, o2, f, rfl, hb2, hfi, k0, k1, k2, k3, k4⟩ := hy.frame hi
  have HF := Lib.hid hfi
  have PK : Hid (∀ w', Ex w w' → w'.cell? ⟨b2, o2 + i * 5, none⟩ = some (.bool f.used)) := Lib.hid (fun w' h => (h.cell hb2).trans k0)
  have HP : Hid (putsT t k i = (!f.used && decide (findF t k < 0))) := Lib.hid (by unfold putsT; rw [getD_of hfi])
  have hi' : ¬ ((t.frames.length : Int) ≤ (i : Int)) := by omega
  have hi2 : (i : Int) < (t.frames.length : Int) := by omega
  have hi0 : ¬ (i : Int) < 0 := by omega
  clear hx hy hok hk hr k0 k1 k2 k3 k4 hfi
  generalize hlb : linkT t k i rt = lt at C5
  have HLT := Lib.hid hlb
  clear hlb
  generalize t.buckets.length = nb at C1 C4 C5 few hc ⊢
  generalize t.frames.length = n at C1 C4 C5 few hd hi hi' hi2 ⊢
  cases hu : f.used
  rotate_left
  · have HN : Hid (mapT t k i rt = (noTable, false)) := Lib.hid (by unfold mapT; rw [HP.out, hu]; rfl)
    rw [hu] at PK
    rw [HN.out]
    clear hu
    go_enter Tryd.func31, Tryd.ntmps31
    go_wp2_with fail
    refine name_calls ?_; intro v1 hv1
    have X1 : Hid (Chg (0) (0) w v1) := Lib.hid (by rw [hv1]; repeat' (first | with_reducible exact Chg.refl _ _ _ | with_reducible refine Chg.alloc ?_ _ | with_reducible refine Chg.drew ?_ | with_reducible refine Chg.set ?_ (by omega) _))
    have t1 : w.heap.size ≤ v1.heap.size := X1.out.size
    have Ev1 : Hid (Ex w v1) := Lib.hid ((Ex.refl w).chg X1.out (by omega))
    have KX : Hid (Blk v1 (w.heap.size) 26 [.slice A nb c, .slice (some ⟨b2, o2, none⟩) n d]) := Lib.hid (by rw [hv1]; repeat' (first | with_reducible exact Blk.new_at _ _ _ (by simp) | with_reducible refine Blk.alloc ?_ _ | with_reducible refine Blk.drew ?_ | with_reducible refine Blk.far ?_ (by simp; omega) _))
    have lX : w.heap.size < v1.heap.size := KX.out.lt
    have KK : Hid (Blk v1 (w.heap.size + 1) 45 [.int .i64 k.space, .int .i64 k.page]) := Lib.hid (by rw [hv1]; repeat' (first | with_reducible exact Blk.new_at _ _ _ (by simp) | with_reducible refine Blk.alloc ?_ _ | with_reducible refine Blk.drew ?_ | with_reducible refine Blk.far ?_ (by simp; omega) _))
    have lK : w.heap.size + 1 < v1.heap.size := KK.out.lt
    have KR : Hid (Blk v1 (w.heap.size + 1 + 1) 26 [.slice none 0 0, .slice none 0 0]) := Lib.hid (by rw [hv1]; repeat' (first | with_reducible exact Blk.new_at _ _ _ (by simp) | with_reducible refine Blk.alloc ?_ _ | with_reducible refine Blk.drew ?_ | with_reducible refine Blk.far ?_ (by simp; omega) _))
    have lR : w.heap.size + 1 + 1 < v1.heap.size := KR.out.lt
    clear hv1
    refine (C1.out _ Ev1.out).mono ?_; rintro r w1 ⟨rfl, hb1⟩
    have Y1 : Hid (Chg 0 0 v1 w1) := Lib.hid (Chg.of_ex hb1)
    have s1 : v1.heap.size ≤ w1.heap.size := Y1.out.size
    have Ew1 : Hid (Ex w w1) := Lib.hid (Ev1.out.chg Y1.out (by omega))
    clear hb1
    replace KX := Lib.hid (KX.out.chg Y1.out (by omega))
    replace KK := Lib.hid (KK.out.chg Y1.out (by omega))
    replace KR := Lib.hid (KR.out.chg Y1.out (by omega))
    obtain ⟨qX0, qX1⟩ := KX.out.c2
    have jX := KX.out.lt
    obtain ⟨qK0, qK1⟩ := KK.out.c2
    have jK := KK.out.lt
    obtain ⟨qR0, qR1⟩ := KR.out.c2
    have jR := KR.out.lt
    have zR := KR.out.frozen
    go_wp2_with fail
    refine name_calls ?_; intro v2 hv2
    have X2 : Hid (Chg (0) (0) w1 v2) := Lib.hid (by rw [hv2]; repeat' (first | with_reducible exact Chg.refl _ _ _ | with_reducible refine Chg.alloc ?_ _ | with_reducible refine Chg.drew ?_ | with_reducible refine Chg.set ?_ (by omega) _))
    have t2 : w1.heap.size ≤ v2.heap.size := X2.out.size
    have Ev2 : Hid (Ex w v2) := Lib.hid (Ew1.out.chg X2.out (by omega))
    clear qX0 qX1 jX
    clear qK0 qK1 jK
    clear qR0 qR1 jR zR
    replace KX := Lib.hid (KX.out.chg X2.out (by omega))
    replace KK := Lib.hid (KK.out.chg X2.out (by omega))
    replace KR := Lib.hid (KR.out.chg X2.out (by omega))
    clear hv2
    refine (C2.out _).mono ?_; rintro r w2 ⟨rfl, hb2⟩
    have Y2 : Hid (Chg 0 0 v2 w2) := Lib.hid (Chg.of_ex hb2)
    have s2 : v2.heap.size ≤ w2.heap.size := Y2.out.size
    have Ew2 : Hid (Ex w w2) := Lib.hid (Ev2.out.chg Y2.out (by omega))
    clear hb2
    replace KX := Lib.hid (KX.out.chg Y2.out (by omega))
    replace KK := Lib.hid (KK.out.chg Y2.out (by omega))
    replace KR := Lib.hid (KR.out.chg Y2.out (by omega))
    obtain ⟨qX0, qX1⟩ := KX.out.c2
    have jX := KX.out.lt
    obtain ⟨qK0, qK1⟩ := KK.out.c2
    have jK := KK.out.lt
    obtain ⟨qR0, qR1⟩ := KR.out.c2
    have jR := KR.out.lt
    have zR := KR.out.frozen
    go_wp2_with fail
    refine (C3.out _).mono ?_; rintro r wq3 ⟨rfl, rfl⟩
    have p0 := PK.out _ Ew2.out
    go_wp2
    exact bodyPost_ret (v := .tuple #[.agg #[.slice none 0 0, .slice none 0 0], .bool false]) (by simp [results, Tryd.results31, go_sem, qR0, qR1]) rfl
      ⟨none, 0, none, 0, rfl, Fr.none_ _ _ _ _, Fr.none_ _ _ _ _, (by repeat' (first | with_reducible exact Ew2.out | with_reducible refine Ex.alloc ?_ _ | with_reducible refine Ex.drew ?_ | with_reducible refine Ex.put ?_ (by omega) _))⟩
  rw [hu] at PK
  by_cases hq : findF t k < 0
  · have HN : Hid (mapT t k i rt = (lt, true)) := Lib.hid (by unfold mapT; rw [HP.out, hu, decide_eq_true hq, HLT.out]; rfl)
    rw [HN.out]
    have hq' : ¬ 0 ≤ findF t k := by omega
    generalize findF t k = q at C4 hq hq'
    clear hu
    go_enter Tryd.func31, Tryd.ntmps31
    go_wp2_with fail
    refine name_calls ?_; intro v1 hv1
    have X1 : Hid (Chg (0) (0) w v1) := Lib.hid (by rw [hv1]; repeat' (first | with_reducible exact Chg.refl _ _ _ | with_reducible refine Chg.alloc ?_ _ | with_reducible refine Chg.drew ?_ | with_reducible refine Chg.set ?_ (by omega) _))
    have t1 : w.heap.size ≤ v1.heap.size := X1.out.size
    have Ev1 : Hid (Ex w v1) := Lib.hid ((Ex.refl w).chg X1.out (by omega))
    have KX : Hid (Blk v1 (w.heap.size) 26 [.slice A nb c, .slice (some ⟨b2, o2, none⟩) n d]) := Lib.hid (by rw [hv1]; repeat' (first | with_reducible exact Blk.new_at _ _ _ (by simp) | with_reducible refine Blk.alloc ?_ _ | with_reducible refine Blk.drew ?_ | with_reducible refine Blk.far ?_ (by simp; omega) _))
    have lX : w.heap.size < v1.heap.size := KX.out.lt
    have KK : Hid (Blk v1 (w.heap.size + 1) 45 [.int .i64 k.space, .int .i64 k.page]) := Lib.hid (by rw [hv1]; repeat' (first | with_reducible exact Blk.new_at _ _ _ (by simp) | with_reducible refine Blk.alloc ?_ _ | with_reducible refine Blk.drew ?_ | with_reducible refine Blk.far ?_ (by simp; omega) _))
    have lK : w.heap.size + 1 < v1.heap.size := KK.out.lt
    have KR : Hid (Blk v1 (w.heap.size + 1 + 1) 26 [.slice none 0 0, .slice none 0 0]) := Lib.hid (by rw [hv1]; repeat' (first | with_reducible exact Blk.new_at _ _ _ (by simp) | with_reducible refine Blk.alloc ?_ _ | with_reducible refine Blk.drew ?_ | with_reducible refine Blk.far ?_ (by simp; omega) _))
    have lR : w.heap.size + 1 + 1 < v1.heap.size := KR.out.lt
    clear hv1
    refine (C1.out _ Ev1.out).mono ?_; rintro r w1 ⟨rfl, hb1⟩
    have Y1 : Hid (Chg 0 0 v1 w1) := Lib.hid (Chg.of_ex hb1)
    have s1 : v1.heap.size ≤ w1.heap.size := Y1.out.size
    have Ew1 : Hid (Ex w w1) := Lib.hid (Ev1.out.chg Y1.out (by omega))
    clear hb1
    replace KX := Lib.hid (KX.out.chg Y1.out (by omega))
    replace KK := Lib.hid (KK.out.chg Y1.out (by omega))
    replace KR := Lib.hid (KR.out.chg Y1.out (by omega))
    obtain ⟨qX0, qX1⟩ := KX.out.c2
    have jX := KX.out.lt
    obtain ⟨qK0, qK1⟩ := KK.out.c2
    have jK := KK.out.lt
    obtain ⟨qR0, qR1⟩ := KR.out.c2
    have jR := KR.out.lt
    have zR := KR.out.frozen
    go_wp2_with fail
    refine name_calls ?_; intro v2 hv2
    have X2 : Hid (Chg (0) (0) w1 v2) := Lib.hid (by rw [hv2]; repeat' (first | with_reducible exact Chg.refl _ _ _ | with_reducible refine Chg.alloc ?_ _ | with_reducible refine Chg.drew ?_ | with_reducible refine Chg.set ?_ (by omega) _))
    have t2 : w1.heap.size ≤ v2.heap.size := X2.out.size
    have Ev2 : Hid (Ex w v2) := Lib.hid (Ew1.out.chg X2.out (by omega))
    clear qX0 qX1 jX
    clear qK0 qK1 jK
    clear qR0 qR1 jR zR
    replace KX := Lib.hid (KX.out.chg X2.out (by omega))
    replace KK := Lib.hid (KK.out.chg X2.out (by omega))
    replace KR := Lib.hid (KR.out.chg X2.out (by omega))
    clear hv2
    refine (C2.out _).mono ?_; rintro r w2 ⟨rfl, hb2⟩
    have Y2 : Hid (Chg 0 0 v2 w2) := Lib.hid (Chg.of_ex hb2)
    have s2 : v2.heap.size ≤ w2.heap.size := Y2.out.size
    have Ew2 : Hid (Ex w w2) := Lib.hid (Ev2.out.chg Y2.out (by omega))
    clear hb2
    replace KX := Lib.hid (KX.out.chg Y2.out (by omega))
    replace KK := Lib.hid (KK.out.chg Y2.out (by omega))
    replace KR := Lib.hid (KR.out.chg Y2.out (by omega))
    obtain ⟨qX0, qX1⟩ := KX.out.c2
    have jX := KX.out.lt
    obtain ⟨qK0, qK1⟩ := KK.out.c2
    have jK := KK.out.lt
    obtain ⟨qR0, qR1⟩ := KR.out.c2
    have jR := KR.out.lt
    have zR := KR.out.frozen
    go_wp2_with fail
    refine (C3.out _).mono ?_; rintro r wq3 ⟨rfl, rfl⟩
    have p0 := PK.out _ Ew2.out
    go_wp2_with fail
    refine name_calls ?_; intro v4 hv4
    have X4 : Hid (Chg (0) (0) w2 v4) := Lib.hid (by rw [hv4]; repeat' (first | with_reducible exact Chg.refl _ _ _ | with_reducible refine Chg.alloc ?_ _ | with_reducible refine Chg.drew ?_ | with_reducible refine Chg.set ?_ (by omega) _))
    have t4 : w2.heap.size ≤ v4.heap.size := X4.out.size
    have Ev4 : Hid (Ex w v4) := Lib.hid (Ew2.out.chg X4.out (by omega))
    clear qX0 qX1 jX
    clear qK0 qK1 jK
    clear qR0 qR1 jR zR
    replace KX := Lib.hid (KX.out.chg X4.out (by omega))
    replace KK := Lib.hid (KK.out.chg X4.out (by omega))
    replace KR := Lib.hid (KR.out.chg X4.out (by omega))
    clear hv4
    refine (C4.out _ Ev4.out).mono ?_; rintro r w4 ⟨⟨sp, rfl⟩, hb4⟩
    have Y4 : Hid (Chg 0 0 v4 w4) := Lib.hid (Chg.of_ex hb4)
    have s4 : v4.heap.size ≤ w4.heap.size := Y4.out.size
    have Ew4 : Hid (Ex w w4) := Lib.hid (Ev4.out.chg Y4.out (by omega))
    clear hb4
    replace KX := Lib.hid (KX.out.chg Y4.out (by omega))
    replace KK := Lib.hid (KK.out.chg Y4.out (by omega))
    replace KR := Lib.hid (KR.out.chg Y4.out (by omega))
    obtain ⟨qX0, qX1⟩ := KX.out.c2
    have jX := KX.out.lt
    obtain ⟨qK0, qK1⟩ := KK.out.c2
    have jK := KK.out.lt
    obtain ⟨qR0, qR1⟩ := KR.out.c2
    have jR := KR.out.lt
    have zR := KR.out.frozen
    go_wp2_with fail
    refine name_calls ?_; intro v5 hv5
    have X5 : Hid (Chg (0) (0) w4 v5) := Lib.hid (by rw [hv5]; repeat' (first | with_reducible exact Chg.refl _ _ _ | with_reducible refine Chg.alloc ?_ _ | with_reducible refine Chg.drew ?_ | with_reducible refine Chg.set ?_ (by omega) _))
    have t5 : w4.heap.size ≤ v5.heap.size := X5.out.size
    have Ev5 : Hid (Ex w v5) := Lib.hid (Ew4.out.chg X5.out (by omega))
    clear qX0 qX1 jX
    clear qK0 qK1 jK
    clear qR0 qR1 jR zR
    replace KX := Lib.hid (KX.out.chg X5.out (by omega))
    replace KK := Lib.hid (KK.out.chg X5.out (by omega))
    replace KR := Lib.hid (KR.out.chg X5.out (by omega))
    clear hv5
    refine (C5.out _ Ev5.out).mono ?_; rintro r w5 ⟨A5, c5, B5, d5, rfl, hfa, hfb, hb5⟩
    have Y5 : Hid (Chg 0 0 v5 w5) := Lib.hid (Chg.of_ex hb5)
    have s5 : v5.heap.size ≤ w5.heap.size := Y5.out.size
    have Ew5 : Hid (Ex w w5) := Lib.hid (Ev5.out.chg Y5.out (by omega))
    clear hb5
    replace KX := Lib.hid (KX.out.chg Y5.out (by omega))
    replace KK := Lib.hid (KK.out.chg Y5.out (by omega))
    replace KR := Lib.hid (KR.out.chg Y5.out (by omega))
    have HFA := Lib.hid hfa; clear hfa
    have WHFA := Lib.hid HFA.out.row
    have HFB := Lib.hid hfb; clear hfb
    have WHFB := Lib.hid HFB.out.row
    obtain ⟨qX0, qX1⟩ := KX.out.c2
    have jX := KX.out.lt
    obtain ⟨qK0, qK1⟩ := KK.out.c2
    have jK := KK.out.lt
    obtain ⟨qR0, qR1⟩ := KR.out.c2
    have jR := KR.out.lt
    have zR := KR.out.frozen
    go_wp2
    exact bodyPost_ret (v := .tuple #[.agg #[.slice A5 lt.buckets.length c5, .slice B5 lt.frames.length d5], .bool true]) (by simp [results, Tryd.results31, go_sem, qR0, qR1]) rfl
      ⟨A5, c5, B5, d5, rfl, Fr.mono (B := v5.heap.size) (by repeat' (first | with_reducible exact HFA.out | with_reducible refine Fr.alloc ?_ _ | with_reducible refine Fr.put ?_ (fun b hb => by have := WHFA.out b hb; omega) _)) (by omega), Fr.mono (B := v5.heap.size) (by repeat' (first | with_reducible exact HFB.out | with_reducible refine Fr.alloc ?_ _ | with_reducible refine Fr.put ?_ (fun b hb => by have := WHFB.out b hb; omega) _)) (by omega), (by repeat' (first | with_reducible exact Ew5.out | with_reducible refine Ex.alloc ?_ _ | with_reducible refine Ex.drew ?_ | with_reducible refine Ex.put ?_ (by omega) _))⟩
  · have HN : Hid (mapT t k i rt = (noTable, false)) := Lib.hid (by unfold mapT; rw [HP.out, hu, decide_eq_false hq]; rfl)
    rw [HN.out]
    have hq' : 0 ≤ findF t k := by omega
    generalize findF t k = q at C4 hq hq'
    clear hu
    go_enter Tryd.func31, Tryd.ntmps31
    go_wp2_with fail
    refine name_calls ?_; intro v1 hv1
    have X1 : Hid (Chg (0) (0) w v1) := Lib.hid (by rw [hv1]; repeat' (first | with_reducible exact Chg.refl _ _ _ | with_reducible refine Chg.alloc ?_ _ | with_reducible refine Chg.drew ?_ | with_reducible refine Chg.set ?_ (by omega) _))
    have t1 : w.heap.size ≤ v1.heap.size := X1.out.size
    have Ev1 : Hid (Ex w v1) := Lib.hid ((Ex.refl w).chg X1.out (by omega))
    have KX : Hid (Blk v1 (w.heap.size) 26 [.slice A nb c, .slice (some ⟨b2, o2, none⟩) n d]) := Lib.hid (by rw [hv1]; repeat' (first | with_reducible exact Blk.new_at _ _ _ (by simp) | with_reducible refine Blk.alloc ?_ _ | with_reducible refine Blk.drew ?_ | with_reducible refine Blk.far ?_ (by simp; omega) _))
    have lX : w.heap.size < v1.heap.size := KX.out.lt
    have KK : Hid (Blk v1 (w.heap.size + 1) 45 [.int .i64 k.space, .int .i64 k.page]) := Lib.hid (by rw [hv1]; repeat' (first | with_reducible exact Blk.new_at _ _ _ (by simp) | with_reducible refine Blk.alloc ?_ _ | with_reducible refine Blk.drew ?_ | with_reducible refine Blk.far ?_ (by simp; omega) _))
    have lK : w.heap.size + 1 < v1.heap.size := KK.out.lt
    have KR : Hid (Blk v1 (w.heap.size + 1 + 1) 26 [.slice none 0 0, .slice none 0 0]) := Lib.hid (by rw [hv1]; repeat' (first | with_reducible exact Blk.new_at _ _ _ (by simp) | with_reducible refine Blk.alloc ?_ _ | with_reducible refine Blk.drew ?_ | with_reducible refine Blk.far ?_ (by simp; omega) _))
    have lR : w.heap.size + 1 + 1 < v1.heap.size := KR.out.lt
    clear hv1
    refine (C1.out _ Ev1.out).mono ?_; rintro r w1 ⟨rfl, hb1⟩
    have Y1 : Hid (Chg 0 0 v1 w1) := Lib.hid (Chg.of_ex hb1)
    have s1 : v1.heap.size ≤ w1.heap.size := Y1.out.size
    have Ew1 : Hid (Ex w w1) := Lib.hid (Ev1.out.chg Y1.out (by omega))
    clear hb1
    replace KX := Lib.hid (KX.out.chg Y1.out (by omega))
    replace KK := Lib.hid (KK.out.chg Y1.out (by omega))
    replace KR := Lib.hid (KR.out.chg Y1.out (by omega))
    obtain ⟨qX0, qX1⟩ := KX.out.c2
    have jX := KX.out.lt
    obtain ⟨qK0, qK1⟩ := KK.out.c2
    have jK := KK.out.lt
    obtain ⟨qR0, qR1⟩ := KR.out.c2
    have jR := KR.out.lt
    have zR := KR.out.frozen
    go_wp2_with fail
    refine name_calls ?_; intro v2 hv2
    have X2 : Hid (Chg (0) (0) w1 v2) := Lib.hid (by rw [hv2]; repeat' (first | with_reducible exact Chg.refl _ _ _ | with_reducible refine Chg.alloc ?_ _ | with_reducible refine Chg.drew ?_ | with_reducible refine Chg.set ?_ (by omega) _))
    have t2 : w1.heap.size ≤ v2.heap.size := X2.out.size
    have Ev2 : Hid (Ex w v2) := Lib.hid (Ew1.out.chg X2.out (by omega))
    clear qX0 qX1 jX
    clear qK0 qK1 jK
    clear qR0 qR1 jR zR
    replace KX := Lib.hid (KX.out.chg X2.out (by omega))
    replace KK := Lib.hid (KK.out.chg X2.out (by omega))
    replace KR := Lib.hid (KR.out.chg X2.out (by omega))
    clear hv2
    refine (C2.out _).mono ?_; rintro r w2 ⟨rfl, hb2⟩
    have Y2 : Hid (Chg 0 0 v2 w2) := Lib.hid (Chg.of_ex hb2)
    have s2 : v2.heap.size ≤ w2.heap.size := Y2.out.size
    have Ew2 : Hid (Ex w w2) := Lib.hid (Ev2.out.chg Y2.out (by omega))
    clear hb2
    replace KX := Lib.hid (KX.out.chg Y2.out (by omega))
    replace KK := Lib.hid (KK.out.chg Y2.out (by omega))
    replace KR := Lib.hid (KR.out.chg Y2.out (by omega))
    obtain ⟨qX0, qX1⟩ := KX.out.c2
    have jX := KX.out.lt
    obtain ⟨qK0, qK1⟩ := KK.out.c2
    have jK := KK.out.lt
    obtain ⟨qR0, qR1⟩ := KR.out.c2
    have jR := KR.out.lt
    have zR := KR.out.frozen
    go_wp2_with fail
    refine (C3.out _).mono ?_; rintro r wq3 ⟨rfl, rfl⟩
    have p0 := PK.out _ Ew2.out
    go_wp2_with fail
    refine name_calls ?_; intro v4 hv4
    have X4 : Hid (Chg (0) (0) w2 v4) := Lib.hid (by rw [hv4]; repeat' (first | with_reducible exact Chg.refl _ _ _ | with_reducible refine Chg.alloc ?_ _ | with_reducible refine Chg.drew ?_ | with_reducible refine Chg.set ?_ (by omega) _))
    have t4 : w2.heap.size ≤ v4.heap.size := X4.out.size
    have Ev4 : Hid (Ex w v4) := Lib.hid (Ew2.out.chg X4.out (by omega))
    clear qX0 qX1 jX
    clear qK0 qK1 jK
    clear qR0 qR1 jR zR
    replace KX := Lib.hid (KX.out.chg X4.out (by omega))
    replace KK := Lib.hid (KK.out.chg X4.out (by omega))
    replace KR := Lib.hid (KR.out.chg X4.out (by omega))
    clear hv4
    refine (C4.out _ Ev4.out).mono ?_; rintro r w4 ⟨⟨sp, rfl⟩, hb4⟩
    have Y4 : Hid (Chg 0 0 v4 w4) := Lib.hid (Chg.of_ex hb4)
    have s4 : v4.heap.size ≤ w4.heap.size := Y4.out.size
    have Ew4 : Hid (Ex w w4) := Lib.hid (Ev4.out.chg Y4.out (by omega))
    clear hb4
    replace KX := Lib.hid (KX.out.chg Y4.out (by omega))
    replace KK := Lib.hid (KK.out.chg Y4.out (by omega))
    replace KR := Lib.hid (KR.out.chg Y4.out (by omega))
    obtain ⟨qX0, qX1⟩ := KX.out.c2
    have jX := KX.out.lt
    obtain ⟨qK0, qK1⟩ := KK.out.c2
    have jK := KK.out.lt
    obtain ⟨qR0, qR1⟩ := KR.out.c2
    have jR := KR.out.lt
    have zR := KR.out.frozen
    go_wp2
    exact bodyPost_ret (v := .tuple #[.agg #[.slice none 0 0, .slice none 0 0], .bool false]) (by simp [results, Tryd.results31, go_sem, qR0, qR1]) rfl
      ⟨none, 0, none, 0, rfl, Fr.none_ _ _ _ _, Fr.none_ _ _ _ _, (by repeat' (first | with_reducible exact Ew4.out | with_reducible refine Ex.alloc ?_ _ | with_reducible refine Ex.drew ?_ | with_reducible refine Ex.put ?_ (by omega) _))⟩
end Go.Proofs.YtbdlpbladpppjaaDoor
/- Taking a page out of a table: the reference's l3Unmap and UnmapPage. -/
namespace Go.Proofs.YtbdlpbladpppjaaDoor
open Go.ChangeShapes Go.WideShapes Go.ChangeAt Go.RowKit
open Rec (sz cs)
set_option linter.unusedVariables false
set_option maxRecDepth 100000

theorem skipTo_none {fs : List FrameD} {i : Nat} {nx : Int} {n j : Nat} (h : fs[j]? = none) : (skipTo fs i nx n)[j]? = none := by
  unfold skipTo; rw [List.getElem?_mapIdx, h]; rfl
theorem skipTo_zero (fs : List FrameD) (i : Nat) (nx : Int) : skipTo fs i nx 0 = fs.set i freeF := by
  refine List.ext_getElem? fun j => ?_
  cases h : fs[j]? with
  | none =>
    rw [skipTo_none h]
    have : fs.length ≤ j := List.getElem?_eq_none_iff.1 h
    exact (List.getElem?_eq_none (by simpa using this)).symm
  | some f =>
    rw [skipTo_get h, List.getElem?_set]
    by_cases e : i = j
    · subst e; rw [if_pos rfl, if_pos rfl, if_pos (getElem?_lt h)]
    · rw [if_neg (fun h => e h.symm), if_neg e, h, if_neg (by omega)]
theorem skipTo_keep {fs : List FrameD} {i : Nat} {nx : Int} {k : Nat} {y : FrameD} (hy : fs[k]? = some y) (h : k = i ∨ ¬ (y.used = true ∧ y.next = (i : Int))) : skipTo fs i nx (k + 1) = skipTo fs i nx k := by
  refine List.ext_getElem? fun j => ?_
  cases hj : fs[j]? with
  | none => rw [skipTo_none hj, skipTo_none hj]
  | some f =>
    rw [skipTo_get hj, skipTo_get hj]
    by_cases e : j = i
    · rw [if_pos e, if_pos e]
    rw [if_neg e, if_neg e]
    by_cases e2 : j = k
    · subst e2
      rw [hy] at hj
      injection hj with hj
      subst hj
      rw [if_pos (by omega), if_neg (by omega)]
      unfold skipF
      rw [if_neg (by rcases h with h | h; exact absurd h e; exact h)]
    · by_cases e3 : j < k
      · rw [if_pos (by omega), if_pos e3]
      · rw [if_neg (by omega), if_neg e3]
theorem skipTo_put {fs : List FrameD} {i : Nat} {nx : Int} {k : Nat} {y : FrameD} (hy : fs[k]? = some y) (hk : k ≠ i) (hu : y.used = true) (hn : y.next = (i : Int)) : skipTo fs i nx (k + 1) = (skipTo fs i nx k).set k { y with next := nx } := by
  refine List.ext_getElem? fun j => ?_
  cases hj : fs[j]? with
  | none =>
    rw [skipTo_none hj]
    have : fs.length ≤ j := List.getElem?_eq_none_iff.1 hj
    exact (List.getElem?_eq_none (by rw [List.length_set, skipTo_length]; exact this)).symm
  | some f =>
    rw [skipTo_get hj, List.getElem?_set, skipTo_length]
    by_cases e2 : k = j
    · subst e2
      rw [hy] at hj
      injection hj with hj
      subst hj
      rw [if_neg hk, if_pos (by omega), if_pos rfl, if_pos (getElem?_lt hy)]
      unfold skipF
      rw [if_pos ⟨hu, hn⟩]
    · rw [if_neg e2, skipTo_get hj]
      by_cases e : j = i
      · rw [if_pos e, if_pos e]
      rw [if_neg e, if_neg e]
      by_cases e3 : j < k
      · rw [if_pos (by omega), if_pos e3]
      · rw [if_neg (by omega), if_neg e3]
/-- No used frame of a valid table is its own next. -/
theorem TableOk.noself {t : TableD} (h : TableOk t) {i : Nat} {f : FrameD} (hf : t.frames[i]? = some f) (hu : f.used = true) : f.next ≠ (i : Int) := fun e => by
  obtain ⟨b, a, l, _, hc, hi, _⟩ := h.met hf hu
  obtain ⟨l2, h1, _⟩ := hc.from hi
  rcases h1.inv with ⟨q, _⟩ | ⟨j, g, l3, q, q2, hg, _, hl3⟩
  · omega
  · have e3 : i = j := by omega
    subst e3
    rw [hf] at hg
    injection hg with hg
    subst hg
    rw [e] at hl3
    have h4 := congrArg List.length (h1.one hl3)
    injection q2 with _ q2
    rw [q2] at h4
    simp at h4

set_option maxHeartbeats 4000000 in
theorem l3Unmap_c (t : TableD) (A : Option Addr) (c : Nat) (B : Option Addr) (d : Nat) (i : Nat) (f : FrameD) (w : World) (hx : Rd w A t.buckets) (hy : Rd w B t.frames) (hc : t.buckets.length ≤ c) (hd : t.frames.length ≤ d) (hc2 : c ≤ maxLen) (hd2 : d ≤ maxLen)
    (hok : TableOk t) (hf : t.frames[i]? = some f) (hu : f.used = true) :
    Calls Tryd.prog 50 #[.agg #[.slice A t.buckets.length c, .slice B t.frames.length d], .int .i64 i] w (TabIs (unlinkT t i) w) := by
  have few := hok.1
  unfold TableHead at few
  have hi := getElem?_lt hf
  have hk : keyOk f.key := (((hok.2.1 i f hi hf).1).2 hu).1
  obtain ⟨hv1, hv2⟩ := hashK_range (n := t.buckets.length) hk (by omega) (by omega)
  obtain ⟨b, eb⟩ : ∃ b : Nat, hashK f.key t.buckets.length = (b : Int) := ⟨(hashK f.key t.buckets.length).toNat, by omega⟩
  have hbm : b < t.buckets.length := by omega
  have HSELF : Hid (f.next ≠ (i : Int)) := Lib.hid (hok.noself hf hu)
  have HY := Lib.hid hy
  have C1 := Lib.hid (fun w' (h : Ex w w') => l3Copy_c t A c B d w' (hx.ex h) (hy.ex h) (by omega) (by omega) hc hd hc2 hd2)
  have CH := Lib.hid (fun w => hashS_c f.key (t.buckets.length : Int) w hk (by omega) (by omega))
  rw [eb] at CH
  obtain ⟨b2, o2, f', rfl, hb2, hfi, k0, k1, k2, k3, k4⟩ := hy.frame hi
  obtain ⟨b1, o1, x, rfl, hb1, hbx, l0⟩ := hx.int hbm
  obtain rfl : f' = f := by rw [hf] at hfi; injection hfi with hfi; exact hfi.symm
  have PF : Hid (∀ w', Ex w w' → (w'.cell? ⟨b2, o2 + i * 5 + 1, none⟩ = some (.int .i64 f'.key.space) ∧ w'.cell? ⟨b2, o2 + i * 5 + 2, none⟩ = some (.int .i64 f'.key.page) ∧ w'.cell? ⟨b2, o2 + i * 5 + 4, none⟩ = some (.int .i64 f'.next) ∧ w'.cell? ⟨b1, o1 + b, none⟩ = some (.int .i64 x))) := Lib.hid (fun w' h => ⟨(h.cell hb2).trans k1, (h.cell hb2).trans k2, (h.cell hb2).trans k4, (h.cell hb1).trans l0⟩)
  have HQ1 : Hid (x = (i : Int) → unlinkT t i = ⟨t.buckets.set b f'.next, t.frames.set i freeF⟩) := Lib.hid (fun e => by unfold unlinkT bkOf; rw [getD_of hf, eb, Int.toNat_natCast, getD_of hbx, if_pos e])
  have HQ2 : Hid (x ≠ (i : Int) → unlinkT t i = ⟨t.buckets, skipTo t.frames i f'.next t.frames.length⟩) := Lib.hid (fun e => by unfold unlinkT bkOf; rw [getD_of hf, eb, Int.toNat_natCast, getD_of hbx, if_neg e])
  have HIX := Lib.hid hf
  have HBX := Lib.hid hbx
  have HFI := Lib.hid hfi
  obtain ⟨xs, ys⟩ := t
  dsimp only at HY C1 CH HQ1 HQ2 HIX HBX hi hbm few ⊢
  have HFIN : Hid (∀ (q : TableD) (A' B' : Option Addr) (c' d' : Nat) (w' : World), unlinkT ⟨xs, ys⟩ i = q → q.buckets.length = xs.length → q.frames.length = ys.length → Fr 3 w' w.heap.size A' c' q.buckets → Fr 47 w' w.heap.size B' d' q.frames → Ex w w' → TabIs (unlinkT ⟨xs, ys⟩ i) w (.returned (.agg #[.slice A' xs.length c', .slice B' ys.length d'])) w') := Lib.hid (fun q A' B' c' d' w' h1 e1 e2 h2 h3 h4 => by rw [h1]; exact ⟨A', c', B', d', by rw [e1, e2], h2, h3, h4⟩)
  have hi' : (i : Int) < (ys.length : Int) := by omega
  have hb' : (b : Int) < (xs.length : Int) := by omega
  have hi0 : ¬ (i : Int) < 0 := by omega
  have hb0 : ¬ (b : Int) < 0 := by omega
  have HXL : Hid (ys.length ≤ 16 ∧ 1 ≤ ys.length) := Lib.hid (by omega)
  clear hx hy k0 k1 k2 k3 k4 l0 hok few hu hk hv1 hv2 eb hf hbx hfi hc hd hc2 hd2
  go_enter Tryd.func50, Tryd.ntmps50
  go_wp2_with fail
  refine name_calls ?_; intro v1 hv1
  have X1 : Hid (Chg (0) (0) w v1) := Lib.hid (by rw [hv1]; repeat' (first | with_reducible exact Chg.refl _ _ _ | with_reducible refine Chg.alloc ?_ _ | with_reducible refine Chg.drew ?_ | with_reducible refine Chg.set ?_ (by omega) _))
  have t1 : w.heap.size ≤ v1.heap.size := X1.out.size
  have Ev1 : Hid (Ex w v1) := Lib.hid ((Ex.refl w).chg X1.out (by omega))
  have KX : Hid (Blk v1 (w.heap.size) 26 [.slice (some ⟨b1, o1, none⟩) xs.length c, .slice (some ⟨b2, o2, none⟩) ys.length d]) := Lib.hid (by rw [hv1]; repeat' (first | with_reducible exact Blk.new_at _ _ _ (by simp) | with_reducible refine Blk.alloc ?_ _ | with_reducible refine Blk.drew ?_ | with_reducible refine Blk.far ?_ (by simp; omega) _))
  have lX : w.heap.size < v1.heap.size := KX.out.lt
  have KR : Hid (Blk v1 (w.heap.size + 1) 26 [.slice none 0 0, .slice none 0 0]) := Lib.hid (by rw [hv1]; repeat' (first | with_reducible exact Blk.new_at _ _ _ (by simp) | with_reducible refine Blk.alloc ?_ _ | with_reducible refine Blk.drew ?_ | with_reducible refine Blk.far ?_ (by simp; omega) _))
  have lR : w.heap.size + 1 < v1.heap.size := KR.out.lt
  clear hv1
  refine (C1.out _ Ev1.out).mono ?_; rintro r w1 ⟨A1, c1, B1, d1, rfl, hfa, hfb, hb1⟩
  have Y1 : Hid (Chg 0 0 v1 w1) := Lib.hid (Chg.of_ex hb1)
  have s1 : v1.heap.size ≤ w1.heap.size := Y1.out.size
  have Ew1 : Hid (Ex w w1) := Lib.hid (Ev1.out.chg Y1.out (by omega))
  clear hb1
  replace KX := Lib.hid (KX.out.chg Y1.out (by omega))
  replace KR := Lib.hid (KR.out.chg Y1.out (by omega))
  have HFA := Lib.hid hfa; clear hfa
  have WHFA := Lib.hid HFA.out.row
  have HFB := Lib.hid hfb; clear hfb
  have WHFB := Lib.hid HFB.out.row
  obtain ⟨qX0, qX1⟩ := KX.out.c2
  have jX := KX.out.lt
  obtain ⟨qR0, qR1⟩ := KR.out.c2
  have jR := KR.out.lt
  have zR := KR.out.frozen
  go_wp2_with fail
  obtain ⟨w2, hw2⟩ : ∃ w2 : World, w2 = w1.alloc (.cells #[.slice A1 xs.length c1, .slice B1 ys.length d1] 26) := ⟨_, rfl⟩
  have Y2 : Hid (Chg 0 0 w1 w2) := Lib.hid (by rw [hw2]; exact (Chg.refl _ _ _).alloc _)
  have KO : Hid (Blk w2 w1.heap.size 26 [.slice A1 xs.length c1, .slice B1 ys.length d1]) := Lib.hid (by rw [hw2]; exact Blk.new _ _ _)
  rw [← hw2]
  clear hw2
  have s2 : w1.heap.size ≤ w2.heap.size := Y2.out.size
  have Ew2 : Hid (Ex w w2) := Lib.hid (Ew1.out.chg Y2.out (by omega))
  clear qX0 qX1 jX
  clear qR0 qR1 jR zR
  replace KX := Lib.hid (KX.out.chg Y2.out (by omega))
  replace KR := Lib.hid (KR.out.chg Y2.out (by omega))
  replace HFA := Lib.hid (HFA.out.chg Y2.out WHFA.out (by omega))
  replace HFB := Lib.hid (HFB.out.chg Y2.out WHFB.out (by omega))
  obtain ⟨qX0, qX1⟩ := KX.out.c2
  have jX := KX.out.lt
  obtain ⟨qR0, qR1⟩ := KR.out.c2
  have jR := KR.out.lt
  have zR := KR.out.frozen
  obtain ⟨qO0, qO1⟩ := KO.out.c2
  have jO := KO.out.lt
  have FK : Hid (∀ w', Ex w2 w' → (w'.cell? ⟨w.heap.size, 0, none⟩ = some (.slice (some ⟨b1, o1, none⟩) xs.length c) ∧ w'.cell? ⟨w.heap.size, 1, none⟩ = some (.slice (some ⟨b2, o2, none⟩) ys.length d) ∧ w'.cell? ⟨b2, o2 + i * 5 + 1, none⟩ = some (.int .i64 f'.key.space) ∧ w'.cell? ⟨b2, o2 + i * 5 + 2, none⟩ = some (.int .i64 f'.key.page))) := Lib.hid (fun w' h => ⟨(KX.out.ex h).c2.1, (KX.out.ex h).c2.2, (PF.out w' (Ew2.out.trans h)).1, (PF.out w' (Ew2.out.trans h)).2.1⟩)
  go_region_held3 (fun w' => (w'.cell? ⟨w.heap.size, 0, none⟩ = some (.slice (some ⟨b1, o1, none⟩) xs.length c) ∧ w'.cell? ⟨w.heap.size, 1, none⟩ = some (.slice (some ⟨b2, o2, none⟩) ys.length d) ∧ w'.cell? ⟨b2, o2 + i * 5 + 1, none⟩ = some (.int .i64 f'.key.space) ∧ w'.cell? ⟨b2, o2 + i * 5 + 2, none⟩ = some (.int .i64 f'.key.page))) (first | (refine FK.out _ ?_; with_reducible (first | exact Ex.refl _ | exact (Ex.refl _).drew | exact hE1)) | go_keep) (first
    | (go_at_call 42; (with_reducible refine (CH.out _).mono ?_); rintro r w3 ⟨rfl, hb3⟩; have hE1 := Ex.trans (Ex.refl _).drew hb3))
  rename_i hHeld
  have Y3 : Hid (Chg 0 0 w2 w3) := Lib.hid (Chg.of_ex hE1)
  clear hHeld hb3 hE1
  have s3 : w2.heap.size ≤ w3.heap.size := Y3.out.size
  have Ew3 : Hid (Ex w w3) := Lib.hid (Ew2.out.chg Y3.out (by omega))
  clear qX0 qX1 jX
  clear qR0 qR1 jR zR
  clear qO0 qO1 jO
  replace KX := Lib.hid (KX.out.chg Y3.out (by omega))
  replace KR := Lib.hid (KR.out.chg Y3.out (by omega))
  replace KO := Lib.hid (KO.out.chg Y3.out (by omega))
  replace HFA := Lib.hid (HFA.out.chg Y3.out WHFA.out (by omega))
  replace HFB := Lib.hid (HFB.out.chg Y3.out WHFB.out (by omega))
  obtain ⟨qX0, qX1⟩ := KX.out.c2
  have jX := KX.out.lt
  obtain ⟨qR0, qR1⟩ := KR.out.c2
  have jR := KR.out.lt
  have zR := KR.out.frozen
  obtain ⟨qO0, qO1⟩ := KO.out.c2
  have jO := KO.out.lt
  obtain ⟨p1, p2, p3, p4⟩ := PF.out w3 Ew3.out
  obtain ⟨gb, rb, hA1, hgb, hbb, hrb⟩ := HFA.out.open_ hbm
  obtain ⟨gf, rf, hB1, hgf, hbf, hrf⟩ := HFB.out.open_ hi
  subst hA1 hB1
  have HBB := Lib.hid hbb
  have HBF := Lib.hid hbf
  have HRB := Lib.hid hrb
  have HRF := Lib.hid hrf
  have hlb := HFA.out.le
  have hlf := HFB.out.le
  have hcb := HFA.out.cap
  have hcf := HFB.out.cap
  have hgbl : gb < w1.heap.size := (WHFA.out gb (rowOf_some (by omega))).2
  have hgfl : gf < w1.heap.size := (WHFB.out gf (rowOf_some (by omega))).2
  have hne := Bk.ne hbb hbf (by decide)
  have hne' : ¬ gf = gb := fun e => hne e.symm
  clear hbb hbf hrb hrf
  clear HFA WHFA
  clear HFB WHFB
  have v0 := HBB.out.int HBX.out
  obtain ⟨d0, d1', d2', d3, d4⟩ := HBF.out.frame HIX.out
  have zb := HBB.out.frozen
  have zf := HBF.out.frozen
  have lb := Blk.lt HBB.out
  have lf := Blk.lt HBF.out
  have n1 : ¬ w1.heap.size = gf := by omega
  have n2 : ¬ gf = w1.heap.size := by omega
  have n3 : ¬ w1.heap.size = gb := by omega
  have n4 : ¬ gb = w1.heap.size := by omega
  have n5 : ¬ w.heap.size + 1 = gf := by omega
  have n6 : ¬ gf = w.heap.size + 1 := by omega
  have n7 : ¬ w.heap.size + 1 = gb := by omega
  have n8 : ¬ gb = w.heap.size + 1 := by omega
  have n9 : ¬ w.heap.size + 1 = w1.heap.size := by omega
  have n10 : ¬ w1.heap.size = w.heap.size + 1 := by omega
  have n11 : ¬ w.heap.size = gf := by omega
  have n12 : ¬ gf = w.heap.size := by omega
  have n13 : ¬ b2 = gf := by omega
  have n14 : ¬ gf = b2 := by omega
  have n15 : ¬ b1 = gf := by omega
  have n16 : ¬ gf = b1 := by omega
  by_cases hxi : x = (i : Int)
  · have hxi' : (x == (i : Int)) = true := by simpa using hxi
    have HU := Lib.hid (HQ1.out hxi)
    clear hxi
    go_wp2
    refine bodyPost_ret (v := .agg #[.slice (some ⟨gb, 0, none⟩) xs.length c1, .slice (some ⟨gf, 0, none⟩) ys.length d1]) (by first | (simp [results, Tryd.results50, go_sem, *]; done) | (simp [results, Tryd.results50, go_sem, qR0, qR1]; done)) rfl
      (HFIN.out _ _ _ _ _ _ HU.out (by simp) (by simp) ?_ ?_ (by repeat' (first | with_reducible exact Ew3.out | with_reducible refine Ex.alloc ?_ _ | with_reducible refine Ex.drew ?_ | with_reducible refine Ex.put ?_ (by omega) _)))
    · refine Fr.close (xs := xs.set b f'.next) (rest := rb) ?_ (by omega) (by simpa using HRB.out) (by simpa using hlb) hcb
      repeat' (first | with_reducible refine Bk.drew ?_ | with_reducible refine Bk.far ?_ hne _ | with_reducible refine Bk.far ?_ hne' _ | with_reducible refine Bk.far ?_ n8 _ | with_reducible refine Bk.far ?_ n6 _)
      with_reducible refine Bk.set_int ?_ _ hbm
      repeat' (first | with_reducible refine Bk.drew ?_ | with_reducible refine Bk.far ?_ hne _ | with_reducible refine Bk.far ?_ hne' _ | with_reducible refine Bk.far ?_ n8 _ | with_reducible refine Bk.far ?_ n6 _)
      exact HBB.out
    · refine Fr.close (xs := ys.set i (⟨false, ⟨0, 0⟩, 0, -1⟩ : FrameD)) (rest := rf) ?_ (by omega) (by simpa using HRF.out) (by simpa using hlf) hcf
      repeat' (first | with_reducible refine Bk.drew ?_ | with_reducible refine Bk.far ?_ hne _ | with_reducible refine Bk.far ?_ hne' _ | with_reducible refine Bk.far ?_ n8 _ | with_reducible refine Bk.far ?_ n6 _)
      with_reducible refine Bk.set_frame ?_ (⟨false, ⟨0, 0⟩, 0, -1⟩ : FrameD) hi
      exact HBF.out
  · have hxi' : (x == (i : Int)) = false := by simpa using hxi
    have HU := Lib.hid (HQ2.out hxi)
    clear hxi
    have KXS := KX
    have KOS := KO
    have KRS := KR
    go_wp2
    clear HQ1 HQ2 v0 d0 d1' d2' d3 d4 zb lb
    have h16 := HXL.out.1
    go_loopw [8] (fun z wr => ∃ k : Nat, k ≤ ys.length ∧ z = .int .i64 k ∧ Chg gf (gf + 1) w3 wr ∧ Bk 47 wr gf (skipTo ys i f'.next k) rf) (fun z _ => ys.length - (intOf z).toNat)
    case atStart =>
      refine ⟨0, Nat.zero_le _, rfl, (by repeat' (first | with_reducible exact Chg.refl _ _ w3 | with_reducible refine Chg.alloc ?_ _ | with_reducible refine Chg.drew ?_ | with_reducible refine Chg.set ?_ (by omega) _)), ?_⟩
      rw [skipTo_zero]
      show Bk _ _ gf (ys.set i (⟨false, ⟨0, 0⟩, 0, -1⟩ : FrameD)) rf
      with_reducible refine Bk.set_frame ?_ (⟨false, ⟨0, 0⟩, 0, -1⟩ : FrameD) hi
      exact HBF.out
    case round =>
      obtain ⟨k, hk, rfl, hch, hbk⟩ := hrel
      have HCH := Lib.hid hch
      have HBK := Lib.hid hbk
      have EW : Hid (Ex w wr) := Lib.hid (Ew3.out.chg hch (by omega))
      have KX := Lib.hid (KXS.out.chg hch (by omega))
      have KO := Lib.hid (KOS.out.chg hch (by omega))
      have KR := Lib.hid (KRS.out.chg hch (by omega))
      clear qX0 qX1 jX qO0 qO1 jO qR0 qR1 jR zR zf lf p1 p2 p3 p4 hch hbk
      obtain ⟨qX0, qX1⟩ := KX.out.c2
      have jX := KX.out.lt
      obtain ⟨qO0, qO1⟩ := KO.out.c2
      have jO := KO.out.lt
      obtain ⟨qR0, qR1⟩ := KR.out.c2
      have jR := KR.out.lt
      have zR := KR.out.frozen
      by_cases hlt : k < ys.length
      · obtain ⟨b3, o3, y, eA, hb3, hyk, k0, k1, k2, k3, k4⟩ := (HY.out.ex EW.out).frame (k := k) hlt
        injection eA with eA
        injection eA with e1 e2
        subst e1 e2
        have HYK := Lib.hid hyk
        obtain ⟨u4, d4⟩ : ∃ u : Int, wr.cell? ⟨gf, k * 5 + 4, none⟩ = some (.int .i64 u) := ⟨_, (HBK.out.frame (skipTo_get (i := i) (nx := f'.next) (n := k) hyk)).2.2.2.2⟩
        have zf := HBK.out.frozen
        have lf := Blk.lt HBK.out
        have HLT : Hid (k < (skipTo ys i f'.next k).length) := Lib.hid (by rw [skipTo_length]; exact hlt)
        clear hyk k1 k2 k3
        cases hu : y.used
        · rw [hu] at k0
          have HS := Lib.hid (skipTo_keep (i := i) (nx := f'.next) HYK.out (.inr (fun h => by rw [hu] at h; cases h.1)))
          clear hu
          go_wp2
          go_roundw
          case rel => exact ⟨k + 1, by omega, by go_num, HCH.out, by rw [HS.out]; exact HBK.out⟩
          case measure => simp [intOf]; omega
        · rw [hu] at k0
          by_cases hn : y.next = (i : Int)
          · have hki : k ≠ i := fun e => by
              subst e
              have h1 := HIX.out
              rw [HYK.out] at h1
              injection h1 with h1
              rw [h1] at hn
              exact HSELF.out hn
            have HS := Lib.hid (skipTo_put (nx := f'.next) HYK.out hki hu hn)
            have HG : Hid ((skipTo ys i f'.next k)[k]? = some y) := Lib.hid (by rw [skipTo_get HYK.out, if_neg hki, if_neg (by omega)])
            have hn' : (y.next == (i : Int)) = true := by simpa using hn
            clear hu hn
            have hk0 : ¬ (k : Int) < 0 := by omega
            have hkn : (k : Int) < (ys.length : Int) := by omega
            go_wp2
            go_roundw
            case rel => exact ⟨k + 1, by omega, by go_num, HCH.out.set (by omega) _, by rw [HS.out]; exact HBK.out.set (j := 4) (x := y) (y := { y with next := f'.next }) HG.out (by decide) rfl (by simp [sz])⟩
            case measure => simp [intOf]; omega
          · have HS := Lib.hid (skipTo_keep (i := i) (nx := f'.next) HYK.out (.inr (fun h => hn h.2)))
            have hn' : (y.next == (i : Int)) = false := by simpa using hn
            clear hu hn
            go_wp2
            go_roundw
            case rel => exact ⟨k + 1, by omega, by go_num, HCH.out, by rw [HS.out]; exact HBK.out⟩
            case measure => simp [intOf]; omega
      · obtain rfl : k = ys.length := by omega
        have HB2 : Hid (Bk 3 wr gb xs rb) := Lib.hid (HBB.out.chg HCH.out (by omega))
        go_wp2
        refine bodyPost_ret (v := .agg #[.slice (some ⟨gb, 0, none⟩) xs.length c1, .slice (some ⟨gf, 0, none⟩) ys.length d1]) (by first | (simp [results, Tryd.results50, go_sem, *]; done) | (simp [results, Tryd.results50, go_sem, qR0, qR1]; done)) rfl
          (HFIN.out _ _ _ _ _ _ HU.out rfl (skipTo_length _ _ _ _) ?_ ?_ (by repeat' (first | with_reducible exact EW.out | with_reducible refine Ex.alloc ?_ _ | with_reducible refine Ex.drew ?_ | with_reducible refine Ex.put ?_ (by omega) _)))
        · refine Fr.close (xs := xs) (rest := rb) ?_ (by omega) HRB.out hlb hcb
          repeat' (first | with_reducible exact HB2.out | with_reducible refine Bk.drew ?_ | with_reducible refine Bk.far ?_ n8 _)
        · refine Fr.close (xs := skipTo ys i f'.next ys.length) (rest := rf) ?_ (by omega) (by rw [skipTo_length]; exact HRF.out) (by rw [skipTo_length]; exact hlf) hcf
          repeat' (first | with_reducible exact HBK.out | with_reducible refine Bk.drew ?_ | with_reducible refine Bk.far ?_ n6 _)
end Go.Proofs.YtbdlpbladpppjaaDoor
