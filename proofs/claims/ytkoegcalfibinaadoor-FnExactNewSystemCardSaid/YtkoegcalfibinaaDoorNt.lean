/- NewTable of both sides. -/
import Derived.Test.YtkoegcalfibinaaDoorNr
import Derived.Test.YtkoegcalfibinaaDoorMt
namespace Go.Proofs.YtkoegcalfibinaaDoor
open Go.ChangeShapes Go.WideShapes Go.ChangeAt Go.RowKit
open Rec (sz cs)
set_option linter.unusedVariables false
set_option maxRecDepth 100000

def freeF : FrameD := ⟨false, ⟨0, 0⟩, 0, -1⟩
def noTable : TableD := ⟨[], []⟩
def newTable (f b : Int) : TableD × Bool := if (1 ≤ f ∧ f ≤ 16) ∧ (1 ≤ b ∧ b ≤ 16) then (⟨List.replicate b.toNat (-1), List.replicate f.toNat freeF⟩, true) else (noTable, false)
theorem newTable_few (f b : Int) : (newTable f b).1.buckets.length ≤ 16 ∧ (newTable f b).1.frames.length ≤ 16 := by
  unfold newTable
  split
  · simp; omega
  · simp [noTable]

/-- The program's variable of an unused frame reads as its text lays it. -/
structure FreeV (w : World) : Prop where
  lt : 0 < w.heap.size
  c0 : w.cell? ⟨0, 0, none⟩ = some (.bool false)
  c1 : w.cell? ⟨0, 1, none⟩ = some (.int .i64 0)
  c2 : w.cell? ⟨0, 2, none⟩ = some (.int .i64 0)
  c3 : w.cell? ⟨0, 3, none⟩ = some (.int .i64 0)
  c4 : w.cell? ⟨0, 4, none⟩ = some (.int .i64 (-1))
theorem FreeV.ex {w w' : World} (h : FreeV w) (k : Ex w w') : FreeV w' :=
  ⟨Nat.lt_of_lt_of_le h.lt k.size, (k.cell h.lt).trans h.c0, (k.cell h.lt).trans h.c1, (k.cell h.lt).trans h.c2, (k.cell h.lt).trans h.c3, (k.cell h.lt).trans h.c4⟩

theorem Rd.row_at {α : Type} [Rec α] (w : World) (E : TypeId) (xs : List α) {g : Nat} (hg : g = w.heap.size) : Rd (w.alloc (.cells (flat xs).toArray E)) (some ⟨g, 0, none⟩) xs := by
  subst hg; exact (Bk.new w E xs).rd

def bkB (n : Int) : Bool := decide (1 ≤ n ∧ n ≤ 16)
theorem bkB_iff {n : Int} : bkB n = true ↔ 1 ≤ n ∧ n ≤ 16 := by simp [bkB]
theorem bkB_not {n : Int} : bkB n = false ↔ ¬ (1 ≤ n ∧ n ≤ 16) := by simp [bkB]
set_option maxHeartbeats 400000 in
theorem bucketsValid_c (n : Int) (w : World) : Calls Tryd.prog 73 #[.int .i64 n] w fun r w' => r = .returned (.bool (bkB n)) ∧ w = w' := by
  by_cases h0 : 1 ≤ n
  · go_enter Tryd.func73, Tryd.ntmps73
    go_wp2
    go_ret
    exact ⟨ret_bool (by rw [Bool.eq_iff_iff, bkB_iff]; simp [h0]), rfl⟩
  · go_enter Tryd.func73, Tryd.ntmps73
    go_wp2
    go_ret
    exact ⟨ret_bool (by rw [Bool.eq_iff_iff, bkB_iff]; simp; omega), rfl⟩
set_option maxHeartbeats 400000 in
theorem l2Buckets_c (n : Int) (w : World) : Calls Tryd.prog 72 #[.int .i64 n] w fun r w' => r = .returned (.bool (bkB n)) ∧ w = w' := by
  by_cases h0 : 1 ≤ n
  · go_enter Tryd.func72, Tryd.ntmps72
    go_wp2
    go_ret
    exact ⟨ret_bool (by rw [Bool.eq_iff_iff, bkB_iff]; simp [h0]), rfl⟩
  · go_enter Tryd.func72, Tryd.ntmps72
    go_wp2
    go_ret
    exact ⟨ret_bool (by rw [Bool.eq_iff_iff, bkB_iff]; simp; omega), rfl⟩

set_option maxHeartbeats 4000000 in
theorem newTableS_c (f b : Int) (w : World) : Calls Tryd.prog 29 #[.int .i64 f, .int .i64 b] w
    fun r w' => ∃ A c B d, r = .returned (.tuple #[.agg #[.slice A (newTable f b).1.buckets.length c, .slice B (newTable f b).1.frames.length d], .bool (newTable f b).2]) ∧ Fr 3 w' w.heap.size A c (newTable f b).1.buckets ∧ Fr 99 w' w.heap.size B d (newTable f b).1.frames ∧ Ex w w' := by
  by_cases hbad : (1 ≤ f ∧ f ≤ 16) ∧ (1 ≤ b ∧ b ≤ 16)
  rotate_left
  · have e : newTable f b = (noTable, false) := if_neg hbad
    rw [e]
    clear e
    have fin : ∀ w' : World, Ex w w' → ∃ A c B d, (Ending.returned (.tuple #[.agg #[.slice none 0 0, .slice none 0 0], .bool false])) = .returned (.tuple #[.agg #[.slice A noTable.buckets.length c, .slice B noTable.frames.length d], .bool false]) ∧ Fr 3 w' w.heap.size A c noTable.buckets ∧ Fr 99 w' w.heap.size B d noTable.frames ∧ Ex w w' := fun w' h => ⟨none, 0, none, 0, rfl, Fr.none_ _ _ _ _, Fr.none_ _ _ _ _, h⟩
    have FIN := Lib.hid fin
    clear fin
    by_cases h1 : f < 1
    · go_enter Tryd.func29, Tryd.ntmps29
      go_wp2
      exact bodyPost_ret (v := .tuple #[.agg #[.slice none 0 0, .slice none 0 0], .bool false]) (by simp [results, Tryd.results29, go_sem]) rfl (FIN.out _ (by repeat' (first | with_reducible exact Ex.refl _ | with_reducible refine Ex.alloc ?_ _ | with_reducible refine Ex.drew ?_ | with_reducible refine Ex.put ?_ (by omega) _)))
    by_cases h2 : 16 < f
    · go_enter Tryd.func29, Tryd.ntmps29
      go_wp2
      exact bodyPost_ret (v := .tuple #[.agg #[.slice none 0 0, .slice none 0 0], .bool false]) (by simp [results, Tryd.results29, go_sem]) rfl (FIN.out _ (by repeat' (first | with_reducible exact Ex.refl _ | with_reducible refine Ex.alloc ?_ _ | with_reducible refine Ex.drew ?_ | with_reducible refine Ex.put ?_ (by omega) _)))
    have h3 : bkB b = false := bkB_not.2 (by omega)
    have CB := Lib.hid (fun w => l2Buckets_c b w)
    rw [h3] at CB
    have h1' : 1 ≤ f := by omega
    have h2' : f ≤ 16 := by omega
    clear h3 hbad
    go_enter Tryd.func29, Tryd.ntmps29
    go_wp2_with fail
    refine (CB.out _).mono ?_
    rintro r w1 ⟨rfl, rfl⟩
    go_wp2
    exact bodyPost_ret (v := .tuple #[.agg #[.slice none 0 0, .slice none 0 0], .bool false]) (by simp [results, Tryd.results29, go_sem]) rfl (FIN.out _ (by repeat' (first | with_reducible exact Ex.refl _ | with_reducible refine Ex.alloc ?_ _ | with_reducible refine Ex.drew ?_ | with_reducible refine Ex.put ?_ (by omega) _)))
  have e : newTable f b = (⟨List.replicate b.toNat (-1), List.replicate f.toNat freeF⟩, true) := if_pos hbad
  rw [e]
  clear e
  obtain ⟨n, rfl⟩ := Int.eq_ofNat_of_zero_le (show 0 ≤ f by omega)
  obtain ⟨m, rfl⟩ := Int.eq_ofNat_of_zero_le (show 0 ≤ b by omega)
  have hn1 : 1 ≤ n := by omega
  have hn2 : n ≤ 16 := by omega
  have hm1 : 1 ≤ m := by omega
  have hm2 : m ≤ 16 := by omega
  simp only [Int.toNat_natCast]
  have hb3 : bkB (m : Int) = true := bkB_iff.2 (by omega)
  have CB := Lib.hid (fun w => l2Buckets_c (m : Int) w)
  rw [hb3] at CB
  clear hb3 hbad
  obtain ⟨i0, hi, hz0, hz1, hz2⟩ := info_parts infoMInt
  obtain ⟨j0, hj, hy0, hy1, hy2⟩ := info_parts infoMFrame
  have HLB : Hid ((List.replicate m (-1 : Int)).length = m) := Lib.hid List.length_replicate
  have HLF : Hid ((List.replicate n freeF).length = n) := Lib.hid List.length_replicate
  go_enter Tryd.func29, Tryd.ntmps29
  go_wp2_with fail
  refine (CB.out _).mono ?_
  rintro r w1 ⟨rfl, rfl⟩
  go_wp2
  obtain ⟨w0, hw0⟩ : ∃ w0 : World, w0 = (w.alloc (.cells #[.slice none 0 0, .slice none 0 0] 25)).alloc (.cells #[.slice none 0 0, .slice none 0 0] 25) := ⟨_, rfl⟩
  obtain ⟨gR, hgR⟩ : ∃ g : Nat, g = w.heap.size := ⟨_, rfl⟩
  obtain ⟨gO, hgO⟩ : ∃ g : Nat, g = w.heap.size + 1 := ⟨_, rfl⟩
  have KR0 : Hid (Blk w0 gR 25 [.slice none 0 0, .slice none 0 0]) := Lib.hid (by rw [hw0, hgR]; exact (Blk.new w _ _).alloc _)
  have KO0 : Hid (Blk w0 gO 25 [.slice none 0 0, .slice none 0 0]) := Lib.hid (by rw [hw0, hgO]; exact Blk.new_at _ _ _ (by simp))
  have E0 : Hid (Ex w w0) := Lib.hid (by rw [hw0]; exact ((Ex.refl w).alloc _).alloc _)
  have HG : Hid (gR = w.heap.size ∧ gO = w.heap.size + 1) := Lib.hid ⟨hgR, hgO⟩
  have HS0 : Hid (w.heap.size + 2 ≤ w0.heap.size) := Lib.hid (by rw [hw0]; simp)
  rw [← hw0]
  try rw [← hgO]
  try rw [← hgR]
  have hRO : ¬ gR = gO := by omega
  have hOR : ¬ gO = gR := by omega
  clear hw0 hgR hgO
  go_loopw [7] (fun i wr => ∃ (k : Nat) (A : Option Addr) (c : Nat), k ≤ m ∧ i = .int .i64 k ∧ Blk wr gO 25 [.slice A k c, .slice none 0 0] ∧ Blk wr gR 25 [.slice none 0 0, .slice none 0 0] ∧ Fr 3 wr (w.heap.size + 2) A c (List.replicate k (-1 : Int)) ∧ Ex w wr ∧ w.heap.size + 2 ≤ wr.heap.size) (fun i _ => m - (intOf i).toNat)
  case atStart => exact ⟨0, none, 0, Nat.zero_le _, rfl, KO0.out, KR0.out, Fr.none_ _ _ _ _, E0.out, HS0.out⟩
  case round =>
    obtain ⟨k, A, c, hk, rfl, hko, hkr, hf, hex, hsz⟩ := hrel
    have KO := Lib.hid hko
    have KR := Lib.hid hkr
    have HF := Lib.hid hf
    have HE := Lib.hid hex
    have HSZ := Lib.hid hsz
    clear hko hkr hf hex hsz
    by_cases hlt : k < m
    · obtain ⟨q0, q1⟩ := KO.out.c2
      have jO := KO.out.lt
      have zO := KO.out.frozen
      have h63 : k + 1 ≤ maxLen := by simp [maxLen]; omega
      have hby : (k + 1) * 8 ≤ 140737488355328 := by omega
      have hlk : k = (List.replicate k (-1 : Int)).length := List.length_replicate.symm
      have HLK := Lib.hid hlk
      clear hlk
      go_wp2_with (at_builtin; refine wpList_append_fr (α := Int) rfl _ _ 22 rfl 3 i0 _ 8 (w.heap.size + 2) Tryd.underlying22 hi hz0 hz1 hz2 rfl A c k (List.replicate k (-1 : Int)) HLK.out rfl (HF.out.alloc _) _ 1 1 [(-1 : Int)] rfl rfl (Bk.new wr 3 [(-1 : Int)]).rd h63 hby (Nat.le_trans HSZ.out (by simp)) ?_)
      intro A6 c6 w6 ha
      have HA := Lib.hid ha
      have KO6 : Hid (Blk w6 gO 25 [.slice A k c, .slice none 0 0]) := Lib.hid ((KO.out.alloc _).grown HA.out.grown (fun e => by have := HF.out.row _ e.symm; have := HG.out; omega))
      have KR6 : Hid (Blk w6 gR 25 [.slice none 0 0, .slice none 0 0]) := Lib.hid ((KR.out.alloc _).grown HA.out.grown (fun e => by have := HF.out.row _ e.symm; have := HG.out; omega))
      have HE6 : Hid (Ex w w6) := Lib.hid ((HE.out.alloc _).grown HA.out.grown (fun g hg => by have := HF.out.row _ hg; omega))
      have HR6 := Lib.hid HA.out.fr.row
      have hw6 : wr.heap.size ≤ w6.heap.size := by have := HA.out.grown.size; simp at this; omega
      clear ha q0 q1 jO zO
      obtain ⟨q0, q1⟩ := KO6.out.c2
      have jO := KO6.out.lt
      have zO := KO6.out.frozen
      go_wp2
      go_roundw
      case rel => exact ⟨k + 1, A6, c6, by omega, by go_num, KO6.out.set 0 _, KR6.out.far (fun e => hRO e) _, by rw [List.replicate_succ']; exact HA.out.fr.put (fun b hb => by have := HR6.out b hb; have := HG.out; omega) _, HE6.out.put (by have := HG.out; omega) _, by have := HSZ.out; simp; omega⟩
      case measure => simp [intOf]; omega
    · obtain rfl : k = m := by omega
      have HWA := Lib.hid HF.out.row
      clear KO0 KR0 E0 HS0
      go_wp2
      go_loopw [8] (fun i wr' => ∃ (j : Nat) (B : Option Addr) (d : Nat), j ≤ n ∧ i = .int .i64 j ∧ Blk wr' gO 25 [.slice A k c, .slice B j d] ∧ Blk wr' gR 25 [.slice none 0 0, .slice none 0 0] ∧ Fr 3 wr' (w.heap.size + 2) A c (List.replicate k (-1 : Int)) ∧ Fr 99 wr' (w.heap.size + 2) B d (List.replicate j freeF) ∧ (∀ b, rowOf A c = some b → rowOf B d ≠ some b) ∧ Ex w wr' ∧ w.heap.size + 2 ≤ wr'.heap.size) (fun i _ => n - (intOf i).toNat)
      case atStart => exact ⟨0, none, 0, Nat.zero_le _, rfl, KO.out, KR.out, HF.out, Fr.none_ _ _ _ _, fun b hb => by simp [rowOf], HE.out, HSZ.out⟩
      case round =>
        clear KO KR HF HE HSZ HWA
        obtain ⟨j, B, d, hj2, rfl, hko, hkr, hf, hfb, hab, hex, hsz⟩ := hrel
        have KO := Lib.hid hko
        have KR := Lib.hid hkr
        have HF := Lib.hid hf
        have HFB := Lib.hid hfb
        have HAB := Lib.hid hab
        have HE := Lib.hid hex
        have HSZ := Lib.hid hsz
        clear hko hkr hf hfb hab hex hsz
        obtain ⟨q0, q1⟩ := KO.out.c2
        have jO := KO.out.lt
        have zO := KO.out.frozen
        by_cases hlt : j < n
        · have h63 : j + 1 ≤ maxLen := by simp [maxLen]; omega
          have hby : (j + 1) * 40 ≤ 140737488355328 := by omega
          have hlk : j = (List.replicate j freeF).length := List.length_replicate.symm
          have HLK := Lib.hid hlk
          clear hlk
          rename_i wr'
          go_wp2_with (at_builtin; refine wpList_append_fr (α := FrameD) rfl _ _ 23 rfl 99 j0 _ 40 (w.heap.size + 2) Tryd.underlying23 hj hy0 hy1 hy2 rfl B d j (List.replicate j freeF) HLK.out rfl (HFB.out.alloc _) _ 1 1 [freeF] rfl rfl (Bk.new _ 99 [freeF]).rd h63 hby (Nat.le_trans HSZ.out (by simp)) ?_)
          intro A6 c6 w6 ha
          have HA := Lib.hid ha
          have KO6 : Hid (Blk w6 gO 25 [.slice A k c, .slice B j d]) := Lib.hid ((KO.out.alloc _).grown HA.out.grown (fun e => by have := HFB.out.row _ e.symm; have := HG.out; omega))
          have KR6 : Hid (Blk w6 gR 25 [.slice none 0 0, .slice none 0 0]) := Lib.hid ((KR.out.alloc _).grown HA.out.grown (fun e => by have := HFB.out.row _ e.symm; have := HG.out; omega))
          have HE6 : Hid (Ex w w6) := Lib.hid ((HE.out.alloc _).grown HA.out.grown (fun g hg => by have := HFB.out.row _ hg; omega))
          have HF6 : Hid (Fr 3 w6 (w.heap.size + 2) A c (List.replicate k (-1 : Int))) := Lib.hid ((HF.out.alloc _).grown HA.out.grown (fun b hb => by
            by_cases hc : c = 0
            · exact .inl hc
            · refine .inr fun e => ?_
              subst e
              exact HAB.out b (rowOf_some (by omega)) hb))
          have HAB6 : Hid (∀ b, rowOf A c = some b → rowOf A6 c6 ≠ some b) := Lib.hid (fun b hb e => by
            rcases HA.out.row with h | h
            · rw [h] at e; exact HAB.out b hb e
            · rw [h] at e; injection e with e; have := HF.out.row b hb; simp at e; omega)
          have HR6 := Lib.hid HA.out.fr.row
          have HRA := Lib.hid HF6.out.row
          have hw6 := HA.out.grown.size
          simp at hw6
          clear ha q0 q1 jO zO
          obtain ⟨q0, q1⟩ := KO6.out.c2
          have jO := KO6.out.lt
          have zO := KO6.out.frozen
          go_wp2
          go_roundw
          case rel => exact ⟨j + 1, A6, c6, by omega, by go_num, KO6.out.set 1 _, KR6.out.far (fun e => hRO e) _, HF6.out.put (fun b hb => by have := HRA.out b hb; have := HG.out; omega) _, by rw [List.replicate_succ']; exact HA.out.fr.put (fun b hb => by have := HR6.out b hb; have := HG.out; omega) _, HAB6.out, HE6.out.put (by have := HG.out; omega) _, by have := HSZ.out; simp; omega⟩
          case measure => simp [intOf]; omega
        · obtain rfl : j = n := by omega
          obtain ⟨r0, r1⟩ := KR.out.c2
          have jR := KR.out.lt
          have zR := KR.out.frozen
          have HRA := Lib.hid HF.out.row
          have HRB := Lib.hid HFB.out.row
          go_wp2
          exact bodyPost_ret (v := .tuple #[.agg #[.slice A k c, .slice B j d], .bool true]) (by simp [results, Tryd.results29, go_sem, r0, r1]) rfl
            ⟨A, c, B, d, by rw [HLB.out, HLF.out], Fr.mono (B := w.heap.size + 2) (by repeat' (first | with_reducible exact HF.out | with_reducible refine Fr.put ?_ (fun b hb => by have := HRA.out b hb; have := HG.out; omega) _)) (by omega), Fr.mono (B := w.heap.size + 2) (by repeat' (first | with_reducible exact HFB.out | with_reducible refine Fr.put ?_ (fun b hb => by have := HRB.out b hb; have := HG.out; omega) _)) (by omega), (HE.out.put (by have := HG.out; omega) _).put (by have := HG.out; omega) _⟩

/-- A new table: its two rows are the call's own, and lie apart. -/
def MadeTable (q : TableD × Bool) (w : World) (r : Ending) (w' : World) : Prop := ∃ A c B d mi, r = .returned (.tuple #[.agg #[.slice A q.1.buckets.length c, .slice B q.1.frames.length d], .bool q.2]) ∧ Fr 3 w' w.heap.size A c q.1.buckets ∧ Fr 99 w' mi B d q.1.frames ∧ (∀ x, rowOf A c = some x → x < mi) ∧ w.heap.size ≤ mi ∧ mi ≤ w'.heap.size ∧ Ex w w'

set_option maxHeartbeats 8000000 in
theorem newTableI_c (f b : Int) (w : World) (hv : FreeV w) : Calls Tryd.prog 30 #[.int .i64 f, .int .i64 b] w (MadeTable (newTable f b) w) := by
  by_cases hbad : (1 ≤ f ∧ f ≤ 16) ∧ (1 ≤ b ∧ b ≤ 16)
  rotate_left
  · have e : newTable f b = (noTable, false) := if_neg hbad
    rw [e]
    clear e
    have fin : ∀ w' : World, Ex w w' → MadeTable (noTable, false) w (.returned (.tuple #[.agg #[.slice none 0 0, .slice none 0 0], .bool false])) w' := fun w' h => ⟨none, 0, none, 0, w.heap.size, rfl, Fr.none_ _ _ _ _, Fr.none_ _ _ _ _, fun x e => by simp [rowOf] at e, Nat.le_refl _, h.size, h⟩
    have FIN := Lib.hid fin
    clear fin hv
    by_cases h1 : f < 1
    · go_enter Tryd.func30, Tryd.ntmps30
      go_wp2
      exact bodyPost_ret (v := .tuple #[.agg #[.slice none 0 0, .slice none 0 0], .bool false]) (by simp [results, Tryd.results30, go_sem]) rfl (FIN.out _ (by repeat' (first | with_reducible exact Ex.refl _ | with_reducible refine Ex.alloc ?_ _ | with_reducible refine Ex.drew ?_ | with_reducible refine Ex.put ?_ (by omega) _)))
    by_cases h2 : 16 < f
    · go_enter Tryd.func30, Tryd.ntmps30
      go_wp2
      exact bodyPost_ret (v := .tuple #[.agg #[.slice none 0 0, .slice none 0 0], .bool false]) (by simp [results, Tryd.results30, go_sem]) rfl (FIN.out _ (by repeat' (first | with_reducible exact Ex.refl _ | with_reducible refine Ex.alloc ?_ _ | with_reducible refine Ex.drew ?_ | with_reducible refine Ex.put ?_ (by omega) _)))
    have h3 : bkB b = false := bkB_not.2 (by omega)
    have CB := Lib.hid (fun w => bucketsValid_c b w)
    rw [h3] at CB
    have h1' : 1 ≤ f := by omega
    have h2' : f ≤ 16 := by omega
    clear h3 hbad
    go_enter Tryd.func30, Tryd.ntmps30
    go_wp2_with fail
    refine (CB.out _).mono ?_
    rintro r w1 ⟨rfl, rfl⟩
    go_wp2
    exact bodyPost_ret (v := .tuple #[.agg #[.slice none 0 0, .slice none 0 0], .bool false]) (by simp [results, Tryd.results30, go_sem]) rfl (FIN.out _ (by repeat' (first | with_reducible exact Ex.refl _ | with_reducible refine Ex.alloc ?_ _ | with_reducible refine Ex.drew ?_ | with_reducible refine Ex.put ?_ (by omega) _)))
  have e : newTable f b = (⟨List.replicate b.toNat (-1), List.replicate f.toNat freeF⟩, true) := if_pos hbad
  rw [e]
  clear e
  obtain ⟨n, rfl⟩ := Int.eq_ofNat_of_zero_le (show 0 ≤ f by omega)
  obtain ⟨m, rfl⟩ := Int.eq_ofNat_of_zero_le (show 0 ≤ b by omega)
  have hn1 : 1 ≤ n := by omega
  have hn2 : n ≤ 16 := by omega
  have hm1 : 1 ≤ m := by omega
  have hm2 : m ≤ 16 := by omega
  simp only [Int.toNat_natCast]
  have hb3 : bkB (m : Int) = true := bkB_iff.2 (by omega)
  have CB := Lib.hid (fun w => bucketsValid_c (m : Int) w)
  rw [hb3] at CB
  have HLB : Hid ((List.replicate m (-1 : Int)).length = m) := Lib.hid List.length_replicate
  have HLF : Hid ((List.replicate n freeF).length = n) := Lib.hid List.length_replicate
  have CR1 := Lib.hid (fun (A : Option Addr) w' h => repeatInt_c A (-1) m w' h hm1 hm2)
  have CR2 := Lib.hid (fun (A : Option Addr) w' h => repeatFrame_c A freeF n w' h hn1 hn2)
  have FK : Hid (∀ w', Ex w w' → (w'.cell? ⟨0, 0, none⟩ = some (.bool false) ∧ w'.cell? ⟨0, 1, none⟩ = some (.int .i64 0) ∧ w'.cell? ⟨0, 2, none⟩ = some (.int .i64 0) ∧ w'.cell? ⟨0, 3, none⟩ = some (.int .i64 0) ∧ w'.cell? ⟨0, 4, none⟩ = some (.int .i64 (-1)))) := Lib.hid (fun w' h => by
    have k := hv.ex h
    exact ⟨k.c0, k.c1, k.c2, k.c3, k.c4⟩)
  have h0w : 0 < w.heap.size := hv.lt
  clear hb3 hbad hv
  go_enter Tryd.func30, Tryd.ntmps30
  go_wp2_with fail
  refine (CB.out _).mono ?_
  rintro r w1 ⟨rfl, rfl⟩
  go_wp2_with fail
  obtain ⟨w0, hw0⟩ : ∃ w0 : World, w0 = w.alloc (.cells #[.slice none 0 0, .slice none 0 0] 25) := ⟨_, rfl⟩
  obtain ⟨gR, hgR⟩ : ∃ g : Nat, g = w.heap.size := ⟨_, rfl⟩
  have KR0 : Hid (Blk w0 gR 25 [.slice none 0 0, .slice none 0 0]) := Lib.hid (by rw [hw0, hgR]; exact Blk.new w _ _)
  have E0 : Hid (Ex w w0) := Lib.hid (by rw [hw0]; exact (Ex.refl w).alloc _)
  have hgw : w.heap.size ≤ gR := by omega
  have HGR : Hid (gR = w.heap.size) := Lib.hid hgR
  have HW0 : Hid (w0.heap.size = w.heap.size + 1) := Lib.hid (by rw [hw0]; simp)
  rw [← hw0]
  try rw [← hgR]
  clear hw0 hgR
  go_region_held3 (fun w' => (w'.cell? ⟨0, 0, none⟩ = some (.bool false) ∧ w'.cell? ⟨0, 1, none⟩ = some (.int .i64 0) ∧ w'.cell? ⟨0, 2, none⟩ = some (.int .i64 0) ∧ w'.cell? ⟨0, 3, none⟩ = some (.int .i64 0) ∧ w'.cell? ⟨0, 4, none⟩ = some (.int .i64 (-1)))) ((refine FK.out _ ?_; repeat' (first | with_reducible exact E0.out | with_reducible exact E0.out.trans hxb | with_reducible exact E0.out.trans hxa | with_reducible refine Ex.alloc ?_ _ | with_reducible refine Ex.drew ?_ | with_reducible refine Ex.put ?_ hgw _))) (first | (go_at_call 74; (refine (CR1.out _ _ ?_).mono ?_); (focus (first | (refine Rd.row_at _ 3 [(-1 : Int)] ?_; simp; done) | (refine Rd.alloc (Rd.row_at _ 3 [(-1 : Int)] ?_) _; simp; done) | (refine Rd.drew (Rd.row_at _ 3 [(-1 : Int)] ?_); simp; done) | (refine Rd.drew (Rd.alloc (Rd.row_at _ 3 [(-1 : Int)] ?_) _); simp; done))); rintro r wa ⟨Aa, rfl, hfa, hba⟩; have hxa : Ex w0 wa := Ex.trans (by repeat' (first | with_reducible exact Ex.refl _ | with_reducible refine Ex.alloc ?_ _ | with_reducible refine Ex.drew ?_)) hba) | (go_at_call 75; (refine (CR2.out _ _ ?_).mono ?_); (focus (first | (refine Rd.row_at _ 99 [freeF] ?_; simp; done) | (refine Rd.ex (Rd.row_at _ 99 [freeF] ?_) hba; simp; done) | (refine Rd.ex (Rd.alloc (Rd.row_at _ 99 [freeF] ?_) _) hba; simp; done) | (refine Rd.ex (Rd.drew (Rd.row_at _ 99 [freeF] ?_)) hba; simp; done) | (refine Rd.ex (Rd.drew (Rd.alloc (Rd.row_at _ 99 [freeF] ?_) _)) hba; simp; done))); rintro r wb ⟨Ab, rfl, hfb, hbb⟩; have hbw : Ex wa wb := Ex.trans (by repeat' (first | with_reducible exact Ex.refl _ | with_reducible refine Ex.alloc ?_ _ | with_reducible refine Ex.drew ?_)) hbb; have hxb : Ex w0 wb := Ex.trans hxa hbw; have kb := KR0.out.ex hxb; obtain ⟨kb0, kb1⟩ := kb.c2; have kbf := kb.frozen; have kbl := kb.lt))
  all_goals
    have hfa1 : Fr 3 wa w0.heap.size Aa m (List.replicate m (-1 : Int)) := Fr.mono hfa (by first | exact Nat.le_refl _ | (simp; done) | (simp; omega))
    have hfb1 : Fr 99 wb wa.heap.size Ab n (List.replicate n freeF) := Fr.mono hfb (by first | exact Nat.le_refl _ | (simp; done) | (simp; omega))
    have hra := hfa1.row
    have hrb := hfb1.row
    have HFA := Lib.hid (hfa1.ex hbw)
    have HFB := Lib.hid hfb1
    have HRA := Lib.hid hra
    have HRB := Lib.hid hrb
    have hsa := hxa.size
    have hsb := hbw.size
    have HXB := Lib.hid hxb
    clear hfa hfb hfa1 hfb1 hra hrb hba hbb hbw hxa hxb
    go_wp2
    exact bodyPost_ret (v := .tuple #[.agg #[.slice Aa m m, .slice Ab n n], .bool true]) (by simp [results, Tryd.results30, go_sem, kb0, kb1, kbl]) rfl
      ⟨Aa, m, Ab, n, wa.heap.size, by rw [HLB.out, HLF.out], Fr.mono (B := w0.heap.size) (by repeat' (first | with_reducible exact HFA.out | with_reducible refine Fr.put ?_ (fun b hb => by have := HRA.out b hb; have := HGR.out; have := HW0.out; omega) _)) (by have := HW0.out; omega), (by repeat' (first | with_reducible exact HFB.out | with_reducible refine Fr.put ?_ (fun b hb => by have := HRB.out b hb; have := HGR.out; have := HW0.out; omega) _)), fun b hb => (HRA.out b hb).2, by have := HW0.out; omega, by simp; omega, ((E0.out.trans HXB.out).put hgw _).put hgw _⟩
end Go.Proofs.YtkoegcalfibinaaDoor
