/- Joined: Vi, Vn, Vj. -/
import Derived.Maps.OwnSet
import Derived.Test.YtbdlpbladpppjaaGreatDoorK3
import Derived.Test.YtbdlpbladpppjaaGreatDoorK2
namespace Go.Proofs.YtbdlpbladpppjaaGreatDoor
open Go.ChangeShapes Go.WideShapes Go.ChangeAt Go.RowKit
open Rec (sz cs)
set_option linter.unusedVariables false
set_option maxRecDepth 100000

theorem wpList_put_key (w : World) {ops : Array Oper} {rest : List Oper} {o : Oper} {a : Act} {Q : Exit → Act → World → Prop}
  (hg : o.guard = none) (m x v : Operand) (hop : o.op = Op.mapUpdate 86 m x v) (b n : Nat) (S : List KeyD) (hm : a.eval m = .map (some b)) (h : HasKeys w b n S) (hn : n < maxLen) (k : KeyD) (hns : ¬ k ∈ S) (hx : a.eval x = .agg #[.int .i64 k.space, .int .i64 k.page]) (hv : a.eval v = .bool true)
  {l : Lit} (hk : keyOf Tryz.prog 43 (.agg #[.int .i64 k.space, .int .i64 k.page]) = some l) (hK : ∀ w', HasKeys w' b (n + 1) (k :: S) → w.grownBy w' (some b) → wpList Tryz.prog ops Q rest (a.put o.dst undef) w') : wpList Tryz.prog ops Q (o :: rest) a w := by
 refine wpList_plain hg fun K' hK' => ?_
 obtain ⟨w', hrun, r1, r2⟩ := h.put hn k hns hk
 unfold Oper.wp
 simp [execOp, hop, hm, hx, hv, hrun, Result.andThen]
 exact hK' _ _ (hK w' r1 r2)

/-- The keys of the used ones among the first k frames. -/
def KeysUp (fs : List FrameD) (k : Nat) (S : List KeyD) : Prop := ∀ x, x ∈ S ↔ ∃ (j : Nat) (g : FrameD), j < k ∧ fs[j]? = some g ∧ g.used = true ∧ g.key = x
theorem keysUp_zero (fs : List FrameD) : KeysUp fs 0 [] := fun x => ⟨(fun h => by cases h), (fun ⟨j, g, h, _⟩ => by omega)⟩
theorem keysUp_no {fs : List FrameD} {k : Nat} {S : List KeyD} {f : FrameD} (h : KeysUp fs k S) (hf : fs[k]? = some f) (hu : f.used = false) : KeysUp fs (k + 1) S := by
 intro x
 rw [h x]
 constructor
 ·rintro ⟨j, g, h1, h2⟩
  exact ⟨j, g, by omega, h2⟩
 ·rintro ⟨j, g, h1, h2, h3, h4⟩
  by_cases e : j = k
  ·subst e
   rw [hf] at h2
   injection h2 with h2
   rw [← h2, hu] at h3
   cases h3
  ·exact ⟨j, g, by omega, h2, h3, h4⟩
theorem keysUp_yes {fs : List FrameD} {k : Nat} {S : List KeyD} {f : FrameD} (h : KeysUp fs k S) (hf : fs[k]? = some f) (hu : f.used = true) : KeysUp fs (k + 1) (f.key :: S) := by
 intro x
 rw [List.mem_cons, h x]
 constructor
 ·rintro (rfl | ⟨j, g, h1, h2⟩)
  ·exact ⟨k, f, by omega, hf, hu, rfl⟩
  ·exact ⟨j, g, by omega, h2⟩
 ·rintro ⟨j, g, h1, h2, h3, h4⟩
  by_cases e : j = k
  ·subst e
   rw [hf] at h2
   injection h2 with h2
   exact .inl (by rw [← h4, ← h2])
  ·exact .inr ⟨j, g, by omega, h2, h3, h4⟩
/-- What the program asks of a used frame. -/
theorem key_again {fs : List FrameD} {k : Nat} {S : List KeyD} {f : FrameD} (h : KeysUp fs k S) (hm : f.key ∈ S) (hu : f.used = true) : ¬ ∀ j g, j < k → fs[j]? = some g → f.used = true → g.used = true → g.key ≠ f.key := fun hn => by
 obtain ⟨j, g, h1, h2, h3, h4⟩ := (h f.key).1 hm
 exact hn j g h1 h2 hu h3 h4
theorem key_fresh {fs : List FrameD} {k : Nat} {S : List KeyD} {f : FrameD} (h : KeysUp fs k S) (hm : ¬ f.key ∈ S) : ∀ j g, j < k → fs[j]? = some g → f.used = true → g.used = true → g.key ≠ f.key :=
 fun j g h1 h2 _ h3 h4 => hm ((h f.key).2 ⟨j, g, h1, h2, h3, h4⟩)

/-- How many entries a map's block has. -/
def mapN (w : World) (b : Nat) : Nat := match w.heap[b]? with | some (.map es _) => es.size | _ => 0
theorem mapN_own {P : Program} {k : TypeId} {R : Value → Option (DataW Unit × List MemPlace)} {w : World} {b n : Nat} {D : DataW Unit} (h : w.ownsMap P k R b n D) : mapN w b = Maps.size D := by
 obtain ⟨es, clock, hb, F, hs, hD⟩ := h
 unfold mapN
 rw [hb, hD]
 simp [Maps.size, length_sorted]

/-- A map of the call's own that holds true just at the numbers of S (no number twice in S). -/
def IntSet (w : World) (b n : Nat) (S : List Int) : Prop := ∃ D : DataW Unit, w.ownsMap Tryz.prog 3 (plainElem Tryz.prog 4) b n D ∧ Maps.IsMap D ∧ Maps.size D = S.length ∧ ∀ x : Int, D.atKey (.int .i64 x) (.lit (.bool false)) = .lit (.bool (decide (x ∈ S))) ∧ Maps.has D (.int .i64 x) = decide (x ∈ S)
theorem IntSet.made (w : World) : IntSet (w.alloc (.map #[] 0)) w.heap.size 0 [] :=
 ⟨_, World.ownsMap_made w _ _ _, Maps.isMap_empty, rfl, fun x => by simp [DataW.atKey, Maps.has]⟩
theorem IntSet.kept {w w' : World} {b n : Nat} {S : List Int} {row : Option Nat} (h : IntSet w b n S) (hg : w.grownBy w' row) (hne : some b ≠ row) : IntSet w' b n S := by
 obtain ⟨D, h1, h2⟩ := h
 exact ⟨D, h1.kept hg hne, h2⟩
theorem IntSet.ex {w w' : World} {b n : Nat} {S : List Int} (h : IntSet w b n S) (k : Ex w w') : IntSet w' b n S :=
 h.kept (grown_ex (grown_refl w none) k) (by simp)
theorem IntSet.lt {w : World} {b n : Nat} {S : List Int} (h : IntSet w b n S) : b < w.heap.size := by
 obtain ⟨D, h1, _⟩ := h
 exact h1.lt
theorem IntSet.num {w : World} {b n : Nat} {S : List Int} (h : IntSet w b n S) : mapN w b = S.length := by
 obtain ⟨D, h1, _, hz, _⟩ := h
 rw [mapN_own h1, hz]
theorem IntSet.look {w : World} {b n : Nat} {S : List Int} (h : IntSet w b n S) (x : Int) (hx : (Lit.int .i64 x).wf = true) :
  (Instr.lookup 88 (.map (some b)) (.int .i64 x) false).run Tryz.prog w = .ok (.bool (decide (x ∈ S))) w := by
 obtain ⟨D, h1, _, _, h2⟩ := h
 obtain ⟨v, ps, hrun, hv⟩ := h1.lookup kInt Tryz.underlying88 (z := .bool false) (by kernel_rfl) (plainElem_bool Tryz.underlying4 false) (Maps.keyOf_int_mk Tryz.underlying3 hx)
 rw [(h2 x).1] at hv
 rw [hrun]
 unfold plainElem at hv
 rw [Tryz.underlying4] at hv
 cases v <;> simp at hv
 rw [hv.1]
theorem IntSet.put {w : World} {b n : Nat} {S : List Int} (h : IntSet w b n S) (hn : n < maxLen) (x : Int) (hns : ¬ x ∈ S) (hx : (Lit.int .i64 x).wf = true) :
  ∃ w', (Instr.mapUpdate 88 (.map (some b)) (.int .i64 x) (.bool true)).run Tryz.prog w = .ok () w' ∧ IntSet w' b (n + 1) (x :: S) ∧ w.grownBy w' (some b) := by
 obtain ⟨D, h1, hm, hz, h2⟩ := h
 obtain ⟨w', hrun, h3, h4⟩ := h1.update kInt Tryz.underlying88 hn (Maps.keyOf_int_mk Tryz.underlying3 hx) (plainElem_bool Tryz.underlying4 true)
 have hkl : WideAt.IsKeyLit (.int .i64 x) := by first | trivial | (simp [WideAt.IsKeyLit]) | exact True.intro
 refine ⟨w', hrun, ⟨_, h3, hm.put _ _, ?_, fun y => ?_⟩, h4⟩
 ·rw [Maps.size_put (h1.tidy kInt), (h2 x).2, hz]
  simp [hns]
 ·by_cases e : y = x
  ·subst e
   rw [Maps.atKey_put_same hm hkl, Maps.has_put_same hm hkl]
   simp
  ·have hl : (Lit.int .i64 y) ≠ .int .i64 x := by intro h; injection h with _ h; exact e h
   rw [Maps.atKey_put_other hl, Maps.has_put_other hl, (h2 y).1, (h2 y).2]
   simp [e]

theorem wpList_put_set (w : World) {ops : Array Oper} {rest : List Oper} {o : Oper} {a : Act} {Q : Exit → Act → World → Prop}
  (hg : o.guard = none) (m x v : Operand) (hop : o.op = Op.mapUpdate 88 m x v) (b n : Nat) (S : List Int) (hm : a.eval m = .map (some b)) (h : IntSet w b n S) (hn : n < maxLen) (k : Int) (hns : ¬ k ∈ S) (hx : a.eval x = .int .i64 k) (hv : a.eval v = .bool true)
  (hk : (Lit.int .i64 k).wf = true) (hK : ∀ w', IntSet w' b (n + 1) (k :: S) → w.grownBy w' (some b) → wpList Tryz.prog ops Q rest (a.put o.dst undef) w') : wpList Tryz.prog ops Q (o :: rest) a w := by
 refine wpList_plain hg fun K' hK' => ?_
 obtain ⟨w', hrun, r1, r2⟩ := h.put hn k hns hk
 unfold Oper.wp
 simp [execOp, hop, hm, hx, hv, hrun, Result.andThen]
 exact hK' _ _ (hK w' r1 r2)
theorem wpList_len_set {w : World} {ops : Array Oper} {rest : List Oper} {o : Oper} {a : Act} {Q : Exit → Act → World → Prop} (hg : o.guard = none) (m : Operand) (hop : o.op = Op.call { callee := Callee.builtin Builtin.len, args := #[m], argTypes := #[88] })
  (b n : Nat) (S : List Int) (hm : a.eval m = .map (some b)) (h : IntSet w b n S) (hK : wpList Tryz.prog ops Q rest (a.put o.dst (.int .i64 S.length)) w) : wpList Tryz.prog ops Q (o :: rest) a w := by
 obtain ⟨D, h1, _, hz, _⟩ := h
 exact wpList_len_own _ hg m _ hop _ _ Tryz.underlying88 _ b n D hm h1 (by rw [hz]; exact hK)
theorem wpList_len_keys {w : World} {ops : Array Oper} {rest : List Oper} {o : Oper} {a : Act} {Q : Exit → Act → World → Prop} (hg : o.guard = none) (m : Operand) (hop : o.op = Op.call { callee := Callee.builtin Builtin.len, args := #[m], argTypes := #[86] })
  (b n : Nat) (S : List KeyD) (hm : a.eval m = .map (some b)) (h : HasKeys w b n S) (hK : wpList Tryz.prog ops Q rest (a.put o.dst (.int .i64 S.length)) w) : wpList Tryz.prog ops Q (o :: rest) a w := by
 obtain ⟨D, h1, _, hz, _⟩ := h
 exact wpList_len_own _ hg m _ hop _ _ Tryz.underlying86 _ b n D hm h1 (by rw [hz]; exact hK)

/-- The numbers that the walk has met: those of the buckets before, and of this one so far. -/
def MetUp (n : Nat) (ls : List (List Nat)) (pre : List Nat) (S : List Int) : Prop := S.Nodup ∧ (∀ x ∈ S, 0 ≤ x ∧ x < (n : Int)) ∧ S.length = sumL ls + pre.length ∧ ∀ x ∈ S, (∃ i ∈ pre, x = (i : Int)) ∨ ∃ l ∈ ls, ∃ i ∈ l, x = (i : Int)
theorem MetUp.zero (n : Nat) : MetUp n [] [] [] := ⟨List.nodup_nil, (by intro x h; cases h), rfl, (by intro x h; cases h)⟩
theorem MetUp.step {n : Nat} {ls : List (List Nat)} {pre : List Nat} {S : List Int} (h : MetUp n ls pre S) {i : Nat} (hi : i < n) (hs : ¬ (i : Int) ∈ S) : MetUp n ls (pre ++ [i]) ((i : Int) :: S) := by
 obtain ⟨h1, h2, h3, h4⟩ := h
 refine ⟨List.nodup_cons.2 ⟨hs, h1⟩, fun x hx => ?_, by simp; omega, fun x hx => ?_⟩
 ·rcases List.mem_cons.1 hx with rfl | hx
  ·omega
  ·exact h2 x hx
 ·rcases List.mem_cons.1 hx with rfl | hx
  ·exact .inl ⟨i, by simp, rfl⟩
  ·rcases h4 x hx with ⟨j, hj, e⟩ | h5
   ·exact .inl ⟨j, by simp [hj], e⟩
   ·exact .inr h5
theorem MetUp.next {n : Nat} {ls : List (List Nat)} {pre : List Nat} {S : List Int} (h : MetUp n ls pre S) : MetUp n (ls ++ [pre]) [] S := by
 obtain ⟨h1, h2, h3, h4⟩ := h
 refine ⟨h1, h2, by rw [sumL_succ]; simpa using h3, fun x hx => ?_⟩
 rcases h4 x hx with h5 | ⟨l, hl, h5⟩
 ·exact .inr ⟨pre, by simp, h5⟩
 ·exact .inr ⟨l, by simp [hl], h5⟩
theorem few_ints : ∀ (n : Nat) (S : List Int), S.Nodup → (∀ x ∈ S, 0 ≤ x ∧ x < (n : Int)) → S.length ≤ n := by
 intro n S h1 h2
 have h3 : (S.map Int.toNat).Nodup := by
  refine List.pairwise_map.2 (List.Pairwise.imp_of_mem ?_ h1)
  intro a b ha hb hne e
  have := h2 a ha
  have := h2 b hb
  omega
 have h4 := nodup_few n (S.map Int.toNat) h3 (fun j hj => by
  obtain ⟨x, hx, rfl⟩ := List.mem_map.1 hj
  have := h2 x hx
  omega)
 simpa using h4
theorem MetUp.few {n : Nat} {ls : List (List Nat)} {pre : List Nat} {S : List Int} (h : MetUp n ls pre S) : S.length ≤ n := few_ints n S h.1 h.2.1
/-- The walk has come to a number that it met before. -/
theorem met_again {t : TableD} {b i n : Nat} {a : Int} {ls : List (List Nat)} {pre : List Nat} {S : List Int} {f : FrameD} (h : MetUp n ls pre S) (hb : Buckets t b ls) (hbb : b < t.buckets.length) (ha : t.buckets[b]? = some a) (hp : Trail t.frames a pre (i : Int)) (hf : t.frames[i]? = some f) (hs : (i : Int) ∈ S) : ¬ TableOk t := by
 rcases h.2.2.2 _ hs with ⟨j, hj, e⟩ | ⟨l, hl, j, hj, e⟩
 ·have e2 : i = j := by omega
  subst e2
  exact not_nochain ha (hp.again hj)
 ·have e2 : i = j := by omega
  subst e2
  obtain ⟨b', hb', e3⟩ := List.getElem_of_mem hl
  have hb2 : b' < b := by rw [← hb.1]; exact hb'
  obtain ⟨a', ha'⟩ : ∃ a', t.buckets[b']? = some a' := ⟨_, List.getElem?_eq_getElem (by omega)⟩
  have h5 := (hb.2 b' a' l hb2 ha' (by rw [List.getElem?_eq_getElem hb', e3])).2 i f hj hf
  exact not_hash_at ha hp hf (by rw [h5]; omega)
/-- A whole chain was walked. -/
theorem Trail.done {t : TableD} {b : Nat} {a : Int} {ls : List (List Nat)} {pre : List Nat} (hb : Buckets t b ls) (ha : t.buckets[b]? = some a) (hp : Trail t.frames a pre (-1)) (hh : ∀ (i : Nat) (f : FrameD), i ∈ pre → t.frames[i]? = some f → hashK f.key t.buckets.length = b) : Buckets t (b + 1) (ls ++ [pre]) := hb.succ ha hp.ends hh

set_option maxHeartbeats 4000000 in
theorem tableI_c (t : TableD) (A : Option Addr) (c : Nat) (B : Option Addr) (d : Nat) (w : World) (hx : Rd w A t.buckets) (hy : Rd w B t.frames) (hn : t.buckets.length ≤ 1048576) (hm : t.frames.length ≤ 1048576) (hv : FreeV w) :
  Calls Tryz.prog 24 #[.agg #[.slice A t.buckets.length c, .slice B t.frames.length d]] w fun r w' => r = .returned (.bool (tableV t)) ∧ Ex w w' := by
 have CB := zq (fun w => bucketsValid_c (t.buckets.length : Int) w)
 by_cases hh : TableHead t
 rotate_left
 ·rw [tableV_no (fun h => hh h.1)]
  have h3 : t.frames.length < 1 ∨ 16 < t.frames.length ∨ ((1 ≤ t.frames.length ∧ t.frames.length ≤ 16) ∧ bkB (t.buckets.length : Int) = false) := by
   unfold TableHead at hh
   by_cases g : 1 ≤ t.frames.length ∧ t.frames.length ≤ 16
   ·exact .inr (.inr ⟨g, bkB_not.2 (by omega)⟩)
   ·omega
  generalize t.frames.length = n at h3 hm ⊢
  generalize t.buckets.length = m at CB hn h3 ⊢
  clear hh hx hy hv
  rcases h3 with h1 | h1 | ⟨⟨h1, h2⟩, h3⟩
  ·go_enter Tryz.func24, Tryz.ntmps24
   go_wp2
   go_ret
   exact ⟨rfl, (by with_reducible repeat' (first | exact Ex.refl _ | refine Ex.alloc ?_ _ | refine Ex.drew ?_ | refine Ex.put ?_ (by omega) _))⟩
  ·go_enter Tryz.func24, Tryz.ntmps24
   go_wp2
   go_ret
   exact ⟨rfl, (by with_reducible repeat' (first | exact Ex.refl _ | refine Ex.alloc ?_ _ | refine Ex.drew ?_ | refine Ex.put ?_ (by omega) _))⟩
  ·rw [h3] at CB
   clear h3
   go_enter Tryz.func24, Tryz.ntmps24
   go_wp2_with fail
   refine (CB.out _).mono ?_
   rintro r w1 ⟨rfl, rfl⟩
   go_wp2
   go_ret
   exact ⟨rfl, (by with_reducible repeat' (first | exact Ex.refl _ | refine Ex.alloc ?_ _ | refine Ex.drew ?_ | refine Ex.put ?_ (by omega) _))⟩
 rw [show bkB (t.buckets.length : Int) = true from bkB_iff.2 (by unfold TableHead at hh; omega)] at CB
 have HH := zq hh
 obtain ⟨⟨hn1, hn2⟩, hm1, hm2⟩ := hh
 have HX := zq hx
 have HY := zq hy
 obtain ⟨n, en⟩ : ∃ n, n = t.frames.length := ⟨_, rfl⟩
 obtain ⟨m, em⟩ : ∃ m, m = t.buckets.length := ⟨_, rfl⟩
 have HN := zq en
 have HM := zq em
 rw [← en] at hn1 hn2 ⊢
 rw [← em] at hm1 hm2 CB ⊢
 have HNO : Hid (∀ w', Ex w w' → ¬ TableOk t → (Ending.returned (.bool false) = .returned (.bool (tableV t)) ∧ Ex w w')) := zq (fun w' h1 h2 => ⟨ret_bool (tableV_no h2).symm, h1⟩)
 have FK : Hid (∀ w', Ex w w' → (w'.cell? ⟨0, 0, none⟩ = some (.bool false) ∧ w'.cell? ⟨0, 1, none⟩ = some (.int .i64 0) ∧ w'.cell? ⟨0, 2, none⟩ = some (.int .i64 0) ∧ w'.cell? ⟨0, 3, none⟩ = some (.int .i64 0) ∧ w'.cell? ⟨0, 4, none⟩ = some (.int .i64 (-1)))) := zq (fun w' h => by
  have k := hv.ex h
  exact ⟨k.c0, k.c1, k.c2, k.c3, k.c4⟩)
 have h0w : 0 < w.heap.size := hv.lt
 clear hx hy hn hm en em hv
 go_enter Tryz.func24, Tryz.ntmps24
 go_wp2_with fail
 refine (CB.out _).mono ?_
 rintro r w1 ⟨rfl, rfl⟩
 clear CB
 have hmm := @run_makeMap Tryz.prog
 go_wp2
 clear hmm
 go_loopw [30] (fun i wr => ∃ (k : Nat) (S : List KeyD), k ≤ n ∧ i = .int .i64 k ∧ FramesUp t.frames k ∧ KeysUp t.frames k S ∧ HasKeys wr (w.heap.size + 1) (usedN t.frames k) S ∧ S.length = usedN t.frames k ∧ Blk wr w.heap.size 26 [.slice A m c, .slice B n d] ∧ Ex w wr) (fun i _ => n - (intOf i).toNat)
 case atStart => exact ⟨0, [], Nat.zero_le _, rfl, framesUp_zero _, keysUp_zero _, (by have h := HasKeys.made (w.alloc (.cells #[.slice A m c, .slice B n d] 26)); rw [usedN_zero]; simpa using h), rfl, (Blk.new _ _ _).alloc _, ((Ex.refl _).alloc _).alloc _⟩
 case round =>
  obtain ⟨k, S, hk, rfl, hup, hks, hmap, hsl, hbk, hex⟩ := hrel
  have HSL := zq hsl
  have HU := zq hup
  have HKS := zq hks
  have HMP := zq hmap
  have KX := zq hbk
  have HE := zq hex
  clear hup hks hmap hsl hbk hex
  by_cases hlt : k < n
  ·obtain ⟨b2, o2, f, rfl, hb2, hfi, k0, k1, k2, k3, k4⟩ := (HY.out.ex HE.out).frame (k := k) (by have := HN.out; omega)
   have HFI := zq hfi
   have HUS := zq (usedN_succ hfi)
   clear hfi
   have hgw := Ex.size HE.out
   cases hu : f.used
   ·have HFU := zq hu
    rw [hu] at k0
    obtain ⟨z0, z1, z2, z3, z4⟩ := FK.out wr HE.out
    have hz0 : 0 < wr.heap.size := by omega
    have hneq := neq_frame f freeF
    simp only [freeF, hu] at hneq
    have hgd := guardFrame
    cases hq : eqB f ⟨false, ⟨0, 0⟩, 0, -1⟩
    ·rw [hq] at hneq
     have HQ := zq (eqB_false.1 hq)
     clear hu hq
     go_wp2
     go_ret
     exact HNO.out _ (HE.out.alloc _) (not_frames HFI.out (fun h => HQ.out (h.1.1 HFU.out)))
    ·rw [hq] at hneq
     have HQ := zq (eqB_true.1 hq)
     clear hu hq
     go_wp2
     go_roundw
     case rel => exact ⟨k + 1, S, by omega, by go_num, framesUp_succ HU.out HFI.out ⟨fun _ => HQ.out, fun h => by rw [HFU.out] at h; cases h⟩ (fun j g h1 h2 h3 => by rw [HFU.out] at h3; cases h3), keysUp_no HKS.out HFI.out HFU.out, by rw [HUS.out, HFU.out]; exact HMP.out.ex ((Ex.refl _).alloc _), by rw [HUS.out, HFU.out]; exact HSL.out, KX.out.alloc _, HE.out.alloc _⟩
     case measure => simp [intOf]; omega
   ·have HFU := zq hu
    rw [hu] at k0
    have C1 := zq (fun w => keyI_c f.key w)
    have C2 := zq (fun w => rightsI_c f.rights w)
    clear hu
    cases hkb : keyB f.key
    ·rw [hkb] at C1
     have HB := zq hkb
     clear hkb
     go_wp2_with fail
     refine (C1.out _).mono ?_
     rintro r w2 ⟨rfl, he⟩
     have HE2 := zq ((HE.out.alloc _).trans he)
     clear he
     go_wp2
     go_ret
     exact HNO.out _ HE2.out (not_frames HFI.out (fun h => by have := keyB_iff.2 (h.1.2 HFU.out).1; rw [HB.out] at this; cases this))
    rw [hkb] at C1
    have HB : Hid (keyOk f.key) := zq (keyB_iff.1 hkb)
    clear hkb
    go_wp2_with fail
    refine (C1.out _).mono ?_
    rintro r w2 ⟨rfl, he⟩
    have HE2 := zq ((HE.out.alloc _).trans he)
    have KF : Hid (Blk w2 wr.heap.size 45 [.bool true, .int .i64 f.key.space, .int .i64 f.key.page, .int .i64 f.rights, .int .i64 f.next]) := zq ((Blk.new wr _ _).ex he)
    have KX2 := zq ((KX.out.alloc _).ex he)
    have HMP2 := zq ((HMP.out.ex ((Ex.refl _).alloc _)).ex he)
    clear he k0 k1 k2 k3 k4
    obtain ⟨k0, k1, k2, k3, k4⟩ := KF.out.c5
    have jF := KF.out.lt
    cases hrb : inB f.rights 8
    ·rw [hrb] at C2
     have HR := zq hrb
     clear hrb
     go_wp2_with fail
     refine (C2.out _).mono ?_
     rintro r w3 ⟨rfl, rfl⟩
     go_wp2
     go_ret
     exact HNO.out _ HE2.out (not_frames HFI.out (fun h => by have := inB_true.2 (h.1.2 HFU.out).2; rw [HR.out] at this; cases this))
    rw [hrb] at C2
    have HR := zq (inB_true.1 hrb)
    clear hrb
    obtain ⟨lk, hlk⟩ := keyOf_key f.key (WalkArith.wf_i64 (by have := HB.out.1; omega)) (WalkArith.wf_i64 (by have := HB.out.2; omega))
    have HLK := zq hlk
    have hloo := HMP2.out.look f.key hlk
    clear hlk
    by_cases hin : f.key ∈ S
    ·rw [decide_eq_true hin] at hloo
     have HIN := zq hin
     clear hin
     go_wp2_with fail
     refine (C2.out _).mono ?_
     rintro r w3 ⟨rfl, rfl⟩
     go_wp2
     go_ret
     exact HNO.out _ HE2.out (not_frames HFI.out (fun h => key_again HKS.out HIN.out HFU.out h.2))
    ·rw [decide_eq_false hin] at hloo
     have HIN := zq hin
     have hul := usedN_le t.frames k
     clear hin
     go_wp2_with fail
     refine (C2.out _).mono ?_
     rintro r w3 ⟨rfl, rfl⟩
     go_wp2_with (at_mapUpdate; go_must (refine wpList_put_key _ rfl _ _ _ rfl (w.heap.size + 1) (usedN t.frames k) S rfl HMP2.out (by simp only [maxLen]; omega) f.key HIN.out rfl rfl HLK.out ?_); intro w4 hs4 hg4)
     go_roundw
     case rel => exact ⟨k + 1, f.key :: S, by omega, by go_num, framesUp_succ HU.out HFI.out ⟨(fun h => by rw [HFU.out] at h; cases h), (fun _ => ⟨HB.out, HR.out⟩)⟩ (key_fresh HKS.out HIN.out), keysUp_yes HKS.out HFI.out HFU.out, by rw [HUS.out, HFU.out]; exact hs4, by rw [HUS.out, HFU.out, List.length_cons, HSL.out]; rfl, KX2.out.grown hg4 (by intro e; injection e with e; omega), HE2.out.grown hg4 (fun g hg => by injection hg with hg; omega)⟩
     case measure => simp [intOf]; omega
  · -- BUCKETS
   obtain rfl : k = n := by omega
   have HU3 : Hid (FramesUp t.frames t.frames.length) := zq (by rw [← HN.out]; exact HU.out)
   have hul := usedN_le t.frames k
   have HUN : Hid (usedN t.frames k = usedN t.frames t.frames.length) := zq (by rw [← HN.out])
   generalize usedN t.frames k = un at hul HUN HMP HSL
   obtain ⟨q0, q1⟩ := KX.out.c2
   have jX := KX.out.lt
   have HIS0 := zq (IntSet.made wr)
   have HMP0 := zq (HMP.out.ex ((Ex.refl wr).alloc (.map #[] 0)))
   have KX0 := zq (KX.out.alloc (.map #[] 0))
   have HE0 := zq (HE.out.alloc (.map #[] 0))
   have HG0 : Hid (w.heap.size + 1 < wr.heap.size ∧ w.heap.size < wr.heap.size) := zq ⟨HMP.out.lt, jX⟩
   have hmm := @run_makeMap Tryz.prog
   clear HU HKS HMP KX HE
   go_wp2
   clear hmm q0 q1 jX
   obtain ⟨wa, hwa⟩ : ∃ wa : World, wa = wr.alloc (.map #[] 0) := ⟨_, rfl⟩
   obtain ⟨g, hg⟩ : ∃ g, g = wr.heap.size := ⟨_, rfl⟩
   rw [← hwa, ← hg] at HIS0
   rw [← hwa] at HMP0 KX0 HE0
   rw [← hg] at HG0
   rw [← hwa, ← hg]
   clear hwa hg
   go_loopw [75] (fun i wb => ∃ (b : Nat) (ls : List (List Nat)) (S2 : List Int), b ≤ m ∧ i = .int .i64 b ∧ Buckets t b ls ∧ MetUp k ls [] S2 ∧ IntSet wb g (sumL ls) S2 ∧ HasKeys wb (w.heap.size + 1) un S ∧ Blk wb w.heap.size 26 [.slice A m c, .slice B k d] ∧ Ex w wb) (fun i _ => m - (intOf i).toNat)
   case atStart => exact ⟨0, [], [], Nat.zero_le _, rfl, Buckets.zero _, MetUp.zero _, HIS0.out, HMP0.out, KX0.out, HE0.out⟩
   case round =>
    clear HIS0 HMP0 KX0 HE0
    obtain ⟨b, ls, S2, hb, rfl, hbu, hmu, his, hmp, hkx, hexb⟩ := hrel
    have HBU := zq hbu
    have HMU := zq hmu
    have HIS := zq his
    have HMP := zq hmp
    have KX := zq hkx
    have HE := zq hexb
    clear hbu hmu his hmp hkx hexb
    by_cases hbm : b < m
    ·obtain ⟨b5, o5, y, rfl, hb5, hyb, hcy⟩ := (HX.out.ex HE.out).int (k := b) (by have := HM.out; omega)
     have HA0 := zq hyb
     have HB5 : Hid (b < t.buckets.length) := zq (by have := HM.out; omega)
     clear hyb
     obtain ⟨q0, q1⟩ := KX.out.c2
     have jX := KX.out.lt
     go_wp2
     clear q0 q1 jX hcy hb5
     go_loopw [9] (fun i wq => ∃ (pre : List Nat) (a : Int) (S3 : List Int), i = .int .i64 a ∧ Trail t.frames y pre a ∧ (∀ (x : Nat) (f : FrameD), x ∈ pre → t.frames[x]? = some f → hashK f.key t.buckets.length = b) ∧ MetUp k ls pre S3 ∧ IntSet wq g (sumL ls + pre.length) S3 ∧ HasKeys wq (w.heap.size + 1) un S ∧ Blk wq w.heap.size 26 [.slice (some ⟨b5, o5, none⟩) m c, .slice B k d] ∧ Ex w wq) (fun _ wq => k + 1 - mapN wq g)
     case atStart => exact ⟨[], y, S2, rfl, Trail.start _ _, (fun x f h => by cases h), HMU.out, HIS.out, HMP.out, KX.out, HE.out⟩
     case round =>
      clear HMU HIS HMP KX HE S2
      obtain ⟨pre, a, S3, rfl, htr, hph, hmu, his, hmp, hkx, hexq⟩ := hrel
      have HTR := zq htr
      have HPH := zq hph
      have HMU := zq hmu
      have HIS := zq his
      have HMP := zq hmp
      have KX := zq hkx
      have HE := zq hexq
      clear htr hph hmu his hmp hkx hexq
      by_cases ha1 : a = -1
      ·subst ha1
       go_wp2
       go_roundw
       case rel => exact ⟨b + 1, ls ++ [pre], S3, by omega, by go_num, Trail.done HBU.out HA0.out HTR.out HPH.out, HMU.out.next, by rw [sumL_succ]; exact HIS.out, HMP.out, KX.out, HE.out⟩
       case measure => simp [intOf]; omega
      have CEW : Hid (∀ (args : Array Value) (w : World), (callFunc 16 args).run Tryz.prog w = .ok (.enter 16 args) w) := zq (enters Tryz.func16 (by kernel_rfl) (by kernel_rfl))
      have CEH : Hid (∀ (args : Array Value) (w : World), (callFunc 54 args).run Tryz.prog w = .ok (.enter 54 args) w) := zq (enters Tryz.func54 (by kernel_rfl) (by kernel_rfl))
      have CW := zq (fun w => within_c a (k : Int) w)
      by_cases hin : 0 ≤ a ∧ a < k
      rotate_left
      ·rw [show inB a (k : Int) = false from by cases h : inB a (k : Int); rfl; exact absurd (inB_true.1 h) hin] at CW
       have HIN := zq hin
       have HA1 := zq ha1
       clear hin
       go_wp2_with fail
       refine wp_region_held_drew (S := (fun w' => True)) (by kernel_rfl) ?r0_hS0 (fun hHeld => ?_)
       case r0_hS0 => exact trivial
       refine tk 0 ?_; refine tk 1 ?_
       refine wpAnyH_ready (rs := [2]) (by kernel_rfl) (by simp) ?_
       refine AllReadyH.cons (o := ?r0_o2) ?r0_ho2 (fun K hK => ?_) AllReadyH.nil
       case r0_ho2 => (conv => lhs; whnf; arg 1; whnf)
       refine step_call_gu rfl CEW.out _ _ rfl #[.int .i64 a, .int .i64 k] rfl (CW.out _) ?_; rintro r wb ⟨rfl, rfl⟩; refine ⟨_, rfl, ?_⟩
       refine hK.out _ _ ?r0_hS2 (fun hHeld2 => ?_)
       case r0_hS2 => exact trivial
       clear hK K hHeld
       try simp only [Act.put, List.setIfInBounds_toArray, List.set_cons_zero, List.set_cons_succ]
       refine tk 3 ?_; refine tk 4 ?_; refine tn 5 ?_; refine tn 6 ?_; refine tn 7 ?_; refine tk 8 ?_; refine tk 9 ?_; refine tn 10 ?_; refine tn 11 ?_; refine tn 12 ?_; refine tn 13 ?_; refine tn 14 ?_; refine tn 15 ?_; refine tn 16 ?_
       refine tk 17 ?_; refine tk 18 ?_; refine tn 19 ?_; refine tn 20 ?_; refine tn 21 ?_; refine tn 22 ?_; refine tn 23 ?_; refine tn 24 ?_; refine tn 25 ?_; refine tn 26 ?_; refine tn 27 ?_; refine tn 28 ?_; refine tn 29 ?_; refine tn 30 ?_
       refine tk 31 ?_
       refine wpAnyH_done (by kernel_rfl) ?_ _
       go_wp2
       go_ret
       exact HNO.out _ HE.out.drew (not_nochain HA0.out (HTR.out.bad (fun x f e hf => absurd (by have := getElem?_lt hf; have := HN.out; omega) HIN.out) HA1.out))
      rw [inB_true.2 hin] at CW
      obtain ⟨x, rfl⟩ : ∃ x : Nat, a = (x : Int) := ⟨a.toNat, by omega⟩
      have hxk : x < k := by omega
      have hwx : (Lit.int .i64 (x : Int)).wf = true := WalkArith.wf_i64 (by omega)
      obtain ⟨b2, o2, f, rfl, hb2, hfx, k0, k1, k2, k3, k4⟩ := (HY.out.ex HE.out).frame (k := x) (by have := HN.out; omega)
      have HFX := zq hfx
      have HWX := zq hwx
      clear hin hwx hfx
      by_cases hs3 : (x : Int) ∈ S3
      ·have FK : Hid (∀ w', Ex wr w' → ((Instr.lookup 88 (.map (some g)) (.int .i64 (x : Int)) false).run Tryz.prog w' = .ok (.bool true) w')) := zq (fun w' h => by have := (HIS.out.ex h).look x HWX.out; rwa [decide_eq_true hs3] at this)
       have HS3 := zq hs3
       clear hs3 k0 k1 k2 k3 k4
       go_wp2_with fail
       refine wp_region_held_drew (S := (fun w' => ((Instr.lookup 88 (.map (some g)) (.int .i64 (x : Int)) false).run Tryz.prog w' = .ok (.bool true) w'))) (by kernel_rfl) ?r1_hS0 (fun hHeld => ?_)
       case r1_hS0 => exact FK.out _ (Ex.refl _).drew
       refine tk 0 ?_; refine tk 1 ?_
       refine wpAnyH_ready (rs := [2]) (by kernel_rfl) (by simp) ?_
       refine AllReadyH.cons (o := ?r1_o2) ?r1_ho2 (fun K hK => ?_) AllReadyH.nil
       case r1_ho2 => (conv => lhs; whnf; arg 1; whnf)
       refine step_call_gu rfl CEW.out _ _ rfl #[.int .i64 x, .int .i64 k] rfl (CW.out _) ?_; rintro r wb ⟨rfl, rfl⟩; refine ⟨_, rfl, ?_⟩
       refine hK.out _ _ ?r1_hS2 (fun hHeld2 => ?_)
       case r1_hS2 => exact FK.out _ (Ex.refl _).drew
       clear hK K hHeld
       try simp only [Act.put, List.setIfInBounds_toArray, List.set_cons_zero, List.set_cons_succ]
       refine tk 3 ?_; refine tk 4 ?_; refine tk 5 ?_; refine tk 6 ?_; refine tk 7 ?_; refine tk 8 ?_; refine tk 9 ?_; refine tn 10 ?_; refine tn 11 ?_; refine tn 12 ?_; refine tn 13 ?_; refine tn 14 ?_; refine tn 15 ?_; refine tn 16 ?_
       refine tk 17 ?_; refine tk 18 ?_; refine tn 19 ?_; refine tn 20 ?_; refine tn 21 ?_; refine tn 22 ?_; refine tn 23 ?_; refine tn 24 ?_; refine tn 25 ?_; refine tn 26 ?_; refine tn 27 ?_; refine tn 28 ?_; refine tn 29 ?_; refine tn 30 ?_
       refine tk 31 ?_
       refine wpAnyH_done (by kernel_rfl) ?_ _
       go_wp2
       go_ret
       exact HNO.out _ HE.out.drew (met_again HMU.out HBU.out HB5.out HA0.out HTR.out HFX.out HS3.out)
      cases hu : f.used
      ·rw [hu] at k0
       have FK : Hid (∀ w', Ex wr w' → ((Instr.lookup 88 (.map (some g)) (.int .i64 (x : Int)) false).run Tryz.prog w' = .ok (.bool false) w' ∧ w'.cell? ⟨w.heap.size, 0, none⟩ = some (.slice (some ⟨b5, o5, none⟩) m c) ∧ w'.cell? ⟨w.heap.size, 1, none⟩ = some (.slice (some ⟨b2, o2, none⟩) k d) ∧ w'.cell? ⟨b2, o2 + x * 5, none⟩ = some (.bool false) ∧ w'.cell? ⟨b2, o2 + x * 5 + 1, none⟩ = some (.int .i64 f.key.space) ∧ w'.cell? ⟨b2, o2 + x * 5 + 2, none⟩ = some (.int .i64 f.key.page))) := zq (fun w' h => ⟨by have := (HIS.out.ex h).look x HWX.out; rwa [decide_eq_false hs3] at this, (KX.out.ex h).c2.1, (KX.out.ex h).c2.2, (h.cell hb2).trans k0, (h.cell hb2).trans k1, (h.cell hb2).trans k2⟩)
       have HU := zq hu
       have jX := KX.out.lt
       clear hs3 hu k0 k1 k2 k3 k4
       go_wp2_with fail
       refine wp_region_held_drew (S := (fun w' => ((Instr.lookup 88 (.map (some g)) (.int .i64 (x : Int)) false).run Tryz.prog w' = .ok (.bool false) w' ∧ w'.cell? ⟨w.heap.size, 0, none⟩ = some (.slice (some ⟨b5, o5, none⟩) m c) ∧ w'.cell? ⟨w.heap.size, 1, none⟩ = some (.slice (some ⟨b2, o2, none⟩) k d) ∧ w'.cell? ⟨b2, o2 + x * 5, none⟩ = some (.bool false) ∧ w'.cell? ⟨b2, o2 + x * 5 + 1, none⟩ = some (.int .i64 f.key.space) ∧ w'.cell? ⟨b2, o2 + x * 5 + 2, none⟩ = some (.int .i64 f.key.page)))) (by kernel_rfl) ?r2_hS0 (fun hHeld => ?_)
       case r2_hS0 => exact FK.out _ (Ex.refl _).drew
       refine tk 0 ?_; refine tk 1 ?_
       refine wpAnyH_ready (rs := [2]) (by kernel_rfl) (by simp) ?_
       refine AllReadyH.cons (o := ?r2_o2) ?r2_ho2 (fun K hK => ?_) AllReadyH.nil
       case r2_ho2 => (conv => lhs; whnf; arg 1; whnf)
       refine step_call_gu rfl CEW.out _ _ rfl #[.int .i64 x, .int .i64 k] rfl (CW.out _) ?_; rintro r wb ⟨rfl, rfl⟩; refine ⟨_, rfl, ?_⟩
       refine hK.out _ _ ?r2_hS2 (fun hHeld2 => ?_)
       case r2_hS2 => exact FK.out _ (Ex.refl _).drew
       clear hK K hHeld
       try simp only [Act.put, List.setIfInBounds_toArray, List.set_cons_zero, List.set_cons_succ]
       refine tk 3 ?_; refine tk 4 ?_; refine tk 5 ?_; refine tk 6 ?_; refine tk 7 ?_; refine tk 8 ?_; refine tk 9 ?_; refine tk 10 ?_; refine tk 11 ?_; refine tk 12 ?_; refine tk 13 ?_; refine tk 14 ?_; refine tk 15 ?_; refine tk 16 ?_
       refine tk 17 ?_; refine tk 18 ?_; refine tn 19 ?_; refine tn 20 ?_; refine tn 21 ?_; refine tn 22 ?_; refine tn 23 ?_; refine tn 24 ?_; refine tn 25 ?_; refine tn 26 ?_; refine tn 27 ?_; refine tn 28 ?_; refine tn 29 ?_; refine tn 30 ?_
       refine tk 31 ?_
       refine wpAnyH_done (by kernel_rfl) ?_ _
       go_wp2
       go_ret
       exact HNO.out _ HE.out.drew (not_nochain HA0.out (HTR.out.bad (fun i f' e hf => by
        have e2 : i = x := by omega
        subst e2
        rw [HFX.out] at hf
        injection hf with hf
        rw [← hf]
        exact HU.out) (by omega)))
      rw [hu] at k0
      have HU := zq hu
      have hkok : keyOk f.key := ((HU3.out x f (getElem?_lt HFX.out) HFX.out).1.2 hu).1
      have FK : Hid (∀ w', Ex wr w' → ((Instr.lookup 88 (.map (some g)) (.int .i64 (x : Int)) false).run Tryz.prog w' = .ok (.bool false) w' ∧ w'.cell? ⟨w.heap.size, 0, none⟩ = some (.slice (some ⟨b5, o5, none⟩) m c) ∧ w'.cell? ⟨w.heap.size, 1, none⟩ = some (.slice (some ⟨b2, o2, none⟩) k d) ∧ w'.cell? ⟨b2, o2 + x * 5, none⟩ = some (.bool true) ∧ w'.cell? ⟨b2, o2 + x * 5 + 1, none⟩ = some (.int .i64 f.key.space) ∧ w'.cell? ⟨b2, o2 + x * 5 + 2, none⟩ = some (.int .i64 f.key.page))) := zq (fun w' h => ⟨by have := (HIS.out.ex h).look x HWX.out; rwa [decide_eq_false hs3] at this, (KX.out.ex h).c2.1, (KX.out.ex h).c2.2, (h.cell hb2).trans k0, (h.cell hb2).trans k1, (h.cell hb2).trans k2⟩)
      have CH := zq (fun w => hashI_c f.key (m : Int) w hkok (by omega) (by omega))
      have HHV : Hid (hashK f.key (m : Int) = hashK f.key t.buckets.length) := zq (by rw [← HM.out])
      generalize hashK f.key (m : Int) = hv at CH HHV
      have HS3 := zq hs3
      have HB2 := zq hb2
      have K4 := zq k4
      have jX := KX.out.lt
      clear hs3 hu k0 k1 k2 k3 k4 hkok
      by_cases ehv : hv = (b : Int)
      ·subst ehv
       go_wp2_with fail
       refine wp_region_held_drew (S := (fun w' => ((Instr.lookup 88 (.map (some g)) (.int .i64 (x : Int)) false).run Tryz.prog w' = .ok (.bool false) w' ∧ w'.cell? ⟨w.heap.size, 0, none⟩ = some (.slice (some ⟨b5, o5, none⟩) m c) ∧ w'.cell? ⟨w.heap.size, 1, none⟩ = some (.slice (some ⟨b2, o2, none⟩) k d) ∧ w'.cell? ⟨b2, o2 + x * 5, none⟩ = some (.bool true) ∧ w'.cell? ⟨b2, o2 + x * 5 + 1, none⟩ = some (.int .i64 f.key.space) ∧ w'.cell? ⟨b2, o2 + x * 5 + 2, none⟩ = some (.int .i64 f.key.page)))) (by kernel_rfl) ?r3_hS0 (fun hHeld => ?_)
       case r3_hS0 => exact FK.out _ (Ex.refl _).drew
       refine tk 0 ?_; refine tk 1 ?_
       refine wpAnyH_ready (rs := [2]) (by kernel_rfl) (by simp) ?_
       refine AllReadyH.cons (o := ?r3_o2) ?r3_ho2 (fun K hK => ?_) AllReadyH.nil
       case r3_ho2 => (conv => lhs; whnf; arg 1; whnf)
       refine step_call_gu rfl CEW.out _ _ rfl #[.int .i64 x, .int .i64 k] rfl (CW.out _) ?_; rintro r wb ⟨rfl, rfl⟩; refine ⟨_, rfl, ?_⟩
       refine hK.out _ _ ?r3_hS2 (fun hHeld2 => ?_)
       case r3_hS2 => exact FK.out _ (Ex.refl _).drew
       clear hK K hHeld
       try simp only [Act.put, List.setIfInBounds_toArray, List.set_cons_zero, List.set_cons_succ]
       refine tk 3 ?_; refine tk 4 ?_; refine tk 5 ?_; refine tk 6 ?_; refine tk 7 ?_; refine tk 8 ?_; refine tk 9 ?_; refine tk 10 ?_; refine tk 11 ?_; refine tk 12 ?_; refine tk 13 ?_; refine tk 14 ?_; refine tk 15 ?_; refine tk 16 ?_
       refine tk 17 ?_; refine tk 18 ?_; refine tk 19 ?_; refine tk 20 ?_; refine tk 21 ?_; refine tk 22 ?_; refine tk 23 ?_; refine tk 24 ?_; refine tk 25 ?_; refine tk 26 ?_; refine tk 27 ?_; refine tk 29 ?_
       refine wpAnyH_ready (rs := [28]) (by kernel_rfl) (by simp) ?_
       refine AllReadyH.cons (o := ?r3_o28) ?r3_ho28 (fun K hK => ?_) AllReadyH.nil
       case r3_ho28 => (conv => lhs; whnf; arg 1; whnf)
       refine step_call_gu rfl CEH.out _ _ rfl #[.agg #[.int .i64 f.key.space, .int .i64 f.key.page], .int .i64 m] rfl (CH.out _) ?_; rintro r wa ⟨rfl, hwa⟩; refine ⟨_, rfl, ?_⟩; have hxa := Ex.trans (Ex.refl _).drew hwa
       refine hK.out _ _ ?r3_hS28 (fun hHeld28 => ?_)
       case r3_hS28 => exact FK.out _ hxa
       clear hK K hHeld2
       try simp only [Act.put, List.setIfInBounds_toArray, List.set_cons_zero, List.set_cons_succ]
       refine tk 30 ?_; refine tk 31 ?_
       refine wpAnyH_done (by kernel_rfl) ?_ _
       have HEA := zq hxa
       have hfew : (pre ++ [x]).length + sumL ls ≤ k := by
        have h1 := (HMU.out.step hxk HS3.out).few
        have h2 := (HMU.out.step hxk HS3.out).2.2.1
        omega
       have hfew2 : sumL ls + pre.length < k := by simp at hfew; omega
       clear hfew hxa hwa
       go_wp2_with (at_mapUpdate; go_must (refine wpList_put_set _ rfl _ _ _ rfl g (sumL ls + pre.length) S3 rfl (HIS.out.ex HEA.out) (by simp only [maxLen]; omega) (x : Int) HS3.out rfl rfl HWX.out ?_); intro w4 hs4 hg4; have HE4 := zq ((HE.out.trans HEA.out).grown hg4 (fun z hz => by injection hz with hz; have := HG0.out; omega)); have KX4 := zq ((KX.out.ex HEA.out).grown hg4 (by intro e; injection e with e; have := HG0.out; omega)); obtain ⟨q0, q1⟩ := KX4.out.c2; have jX4 := KX4.out.lt; obtain ⟨b3, o3, f3, e3, hb3, hf3, j0, j1, j2, j3, j4⟩ := (HY.out.ex HE4.out).frame (k := x) (by have := HN.out; omega); injection e3 with e3; injection e3 with e4 e5; subst e4; subst e5; have e6 : f = f3 := (by rw [HFX.out] at hf3; injection hf3); subst e6; clear hf3 j0 j1 j2 j3)
       go_roundw
       case rel => exact ⟨pre ++ [x], f.next, (x : Int) :: S3, rfl, HTR.out.step HFX.out HU.out, (fun i f' hi hf => by
        rcases List.mem_append.1 hi with hi | hi
        ·exact HPH.out i f' hi hf
        ·have e7 : i = x := by simpa using hi
         subst e7
         rw [HFX.out] at hf
         injection hf with hf
         rw [← hf]
         exact HHV.out.symm), HMU.out.step hxk HS3.out, by simpa [Nat.add_assoc] using hs4, (HMP.out.ex HEA.out).kept hg4 (by intro e; injection e with e; have := HG0.out; omega), KX4.out, HE4.out⟩
       case measure => rw [hs4.num, HIS.out.num, HMU.out.2.2.1, List.length_cons, HMU.out.2.2.1]; omega
      ·have HEHV := zq ehv
       go_wp2_with fail
       refine wp_region_held_drew (S := (fun w' => ((Instr.lookup 88 (.map (some g)) (.int .i64 (x : Int)) false).run Tryz.prog w' = .ok (.bool false) w' ∧ w'.cell? ⟨w.heap.size, 0, none⟩ = some (.slice (some ⟨b5, o5, none⟩) m c) ∧ w'.cell? ⟨w.heap.size, 1, none⟩ = some (.slice (some ⟨b2, o2, none⟩) k d) ∧ w'.cell? ⟨b2, o2 + x * 5, none⟩ = some (.bool true) ∧ w'.cell? ⟨b2, o2 + x * 5 + 1, none⟩ = some (.int .i64 f.key.space) ∧ w'.cell? ⟨b2, o2 + x * 5 + 2, none⟩ = some (.int .i64 f.key.page)))) (by kernel_rfl) ?r4_hS0 (fun hHeld => ?_)
       case r4_hS0 => exact FK.out _ (Ex.refl _).drew
       refine tk 0 ?_; refine tk 1 ?_
       refine wpAnyH_ready (rs := [2]) (by kernel_rfl) (by simp) ?_
       refine AllReadyH.cons (o := ?r4_o2) ?r4_ho2 (fun K hK => ?_) AllReadyH.nil
       case r4_ho2 => (conv => lhs; whnf; arg 1; whnf)
       refine step_call_gu rfl CEW.out _ _ rfl #[.int .i64 x, .int .i64 k] rfl (CW.out _) ?_; rintro r wb ⟨rfl, rfl⟩; refine ⟨_, rfl, ?_⟩
       refine hK.out _ _ ?r4_hS2 (fun hHeld2 => ?_)
       case r4_hS2 => exact FK.out _ (Ex.refl _).drew
       clear hK K hHeld
       try simp only [Act.put, List.setIfInBounds_toArray, List.set_cons_zero, List.set_cons_succ]
       refine tk 3 ?_; refine tk 4 ?_; refine tk 5 ?_; refine tk 6 ?_; refine tk 7 ?_; refine tk 8 ?_; refine tk 9 ?_; refine tk 10 ?_; refine tk 11 ?_; refine tk 12 ?_; refine tk 13 ?_; refine tk 14 ?_; refine tk 15 ?_; refine tk 16 ?_
       refine tk 17 ?_; refine tk 18 ?_; refine tk 19 ?_; refine tk 20 ?_; refine tk 21 ?_; refine tk 22 ?_; refine tk 23 ?_; refine tk 24 ?_; refine tk 25 ?_; refine tk 26 ?_; refine tk 27 ?_; refine tk 29 ?_
       refine wpAnyH_ready (rs := [28]) (by kernel_rfl) (by simp) ?_
       refine AllReadyH.cons (o := ?r4_o28) ?r4_ho28 (fun K hK => ?_) AllReadyH.nil
       case r4_ho28 => (conv => lhs; whnf; arg 1; whnf)
       refine step_call_gu rfl CEH.out _ _ rfl #[.agg #[.int .i64 f.key.space, .int .i64 f.key.page], .int .i64 m] rfl (CH.out _) ?_; rintro r wa ⟨rfl, hwa⟩; refine ⟨_, rfl, ?_⟩; have hxa := Ex.trans (Ex.refl _).drew hwa
       refine hK.out _ _ ?r4_hS28 (fun hHeld28 => ?_)
       case r4_hS28 => exact FK.out _ hxa
       clear hK K hHeld2
       try simp only [Act.put, List.setIfInBounds_toArray, List.set_cons_zero, List.set_cons_succ]
       refine tk 30 ?_; refine tk 31 ?_
       refine wpAnyH_done (by kernel_rfl) ?_ _
       go_wp2
       go_ret
       exact HNO.out _ (HE.out.trans hxa) (not_hash_at HA0.out HTR.out HFX.out (by rw [← HHV.out]; exact HEHV.out))
    ·obtain rfl : b = m := by omega
     have h1 := HMU.out.2.2.1
     have h2 := HSL.out
     have H1 := zq h1
     clear h1 h2
     go_wp2_with (at_len; first | (refine wpList_len_set rfl _ rfl g (sumL ls) S2 rfl HIS.out ?_) | (go_must (refine wpList_len_keys rfl _ rfl (w.heap.size + 1) un S rfl HMP.out ?_)))
     go_ret
     refine ⟨ret_bool ?_, HE.out⟩
     rw [Bool.eq_iff_iff, tableV_iff, tableOk_end HH.out HU3.out (HM.out ▸ HBU.out), ← HUN.out]
     have h1 := H1.out
     have h2 := HSL.out
     simp at h1 ⊢
     omega
end Go.Proofs.YtbdlpbladpppjaaGreatDoor
