/- Joined: Vi, Vn, Vj, Wm. -/
import Derived.Maps.OwnSet
import Derived.Test.YtbdlpbladpppjaaGreatDoorJ2
import Derived.Test.YtbdlpbladpppjaaGreatDoorJ8
import Derived.Test.YtbdlpbladpppjaaGreatDoorJ1
namespace Go.Proofs.YtbdlpbladpppjaaGreatDoor
open Go.ChangeShapes Go.WideShapes Go.ChangeAt Go.RowKit
open Rec (sz cs)
set_option linter.unusedVariables false
set_option maxRecDepth 100000

theorem wpList_put_key (w : World) {ops : Array Oper} {rest : List Oper} {o : Oper} {a : Act} {Q : Exit → Act → World → Prop}
    (hg : o.guard = none) (m x v : Operand) (hop : o.op = Op.mapUpdate 86 m x v) (b n : Nat) (S : List KeyD) (hm : a.eval m = .map (some b)) (h : HasKeys w b n S) (hn : n < maxLen) (k : KeyD) (hns : ¬ k ∈ S) (hx : a.eval x = .agg #[.int .i64 k.space, .int .i64 k.page]) (hv : a.eval v = .bool true)
    {l : Lit} (hk : keyOf Tryz.prog 43 (.agg #[.int .i64 k.space, .int .i64 k.page]) = some l) (hK : ∀ w', HasKeys w' b (n + 1) (k :: S) → w.grownBy w' (some b) → wpList Tryz.prog ops Q rest (a.put o.dst undef) w') : wpList Tryz.prog ops Q (o :: rest) a w := by
  refine wpList_plain hg fun K' hK' => ?_
  obtain ⟨w', hrun, r1, r2⟩ := h.put hn k hns hk
  unfold Oper.wp
  simp [execOp, hop, hm, hx, hv, hrun, Result.andThen]
  exact hK' _ _ (hK w' r1 r2)

/-- The keys of the used ones among the first k frames. -/
def KeysUp (fs : List FrameD) (k : Nat) (S : List KeyD) : Prop := ∀ x, x ∈ S ↔ ∃ (j : Nat) (g : FrameD), j < k ∧ fs[j]? = some g ∧ g.used = true ∧ g.key = x
theorem keysUp_zero (fs : List FrameD) : KeysUp fs 0 [] := fun x => ⟨(fun h => by cases h), (fun ⟨j, g, h, _⟩ => by omega)⟩
theorem keysUp_no {fs : List FrameD} {k : Nat} {S : List KeyD} {f : FrameD} (h : KeysUp fs k S) (hf : fs[k]? = some f) (hu : f.used = false) : KeysUp fs (k + 1) S := by
  intro x
  rw [h x]
  constructor
  · rintro ⟨j, g, h1, h2⟩
    exact ⟨j, g, by omega, h2⟩
  · rintro ⟨j, g, h1, h2, h3, h4⟩
    by_cases e : j = k
    · subst e
      rw [hf] at h2
      injection h2 with h2
      rw [← h2, hu] at h3
      cases h3
    · exact ⟨j, g, by omega, h2, h3, h4⟩
theorem keysUp_yes {fs : List FrameD} {k : Nat} {S : List KeyD} {f : FrameD} (h : KeysUp fs k S) (hf : fs[k]? = some f) (hu : f.used = true) : KeysUp fs (k + 1) (f.key :: S) := by
  intro x
  rw [List.mem_cons, h x]
  constructor
  · rintro (rfl | ⟨j, g, h1, h2⟩)
    · exact ⟨k, f, by omega, hf, hu, rfl⟩
    · exact ⟨j, g, by omega, h2⟩
  · rintro ⟨j, g, h1, h2, h3, h4⟩
    by_cases e : j = k
    · subst e
      rw [hf] at h2
      injection h2 with h2
      exact .inl (by rw [← h4, ← h2])
    · exact .inr ⟨j, g, by omega, h2, h3, h4⟩
/-- What the program asks of a used frame. -/
theorem key_again {fs : List FrameD} {k : Nat} {S : List KeyD} {f : FrameD} (h : KeysUp fs k S) (hm : f.key ∈ S) (hu : f.used = true) : ¬ ∀ j g, j < k → fs[j]? = some g → f.used = true → g.used = true → g.key ≠ f.key := fun hn => by
  obtain ⟨j, g, h1, h2, h3, h4⟩ := (h f.key).1 hm
  exact hn j g h1 h2 hu h3 h4
theorem key_fresh {fs : List FrameD} {k : Nat} {S : List KeyD} {f : FrameD} (h : KeysUp fs k S) (hm : ¬ f.key ∈ S) : ∀ j g, j < k → fs[j]? = some g → f.used = true → g.used = true → g.key ≠ f.key :=
  fun j g h1 h2 _ h3 h4 => hm ((h f.key).2 ⟨j, g, h1, h2, h3, h4⟩)

/-- How many entries a map's block has. -/
def mapN (w : World) (b : Nat) : Nat := match w.heap[b]? with | some (.map es _) => es.size | _ => 0
theorem mapN_own {P : Program} {k : TypeId} {R : Value → Option (DataW Unit × List MemPlace)} {w : World} {b n : Nat} {D : DataW Unit} (h : w.ownsMap P k R b n D) : mapN w b = Maps.size D := by
  obtain ⟨es, clock, hb, F, hs, hD⟩ := h
  unfold mapN
  rw [hb, hD]
  simp [Maps.size, length_sorted]

/-- A map of the call's own that holds true just at the numbers of S (no number twice in S). -/
def IntSet (w : World) (b n : Nat) (S : List Int) : Prop := ∃ D : DataW Unit, w.ownsMap Tryz.prog 3 (plainElem Tryz.prog 4) b n D ∧ Maps.IsMap D ∧ Maps.size D = S.length ∧ ∀ x : Int, D.atKey (.int .i64 x) (.lit (.bool false)) = .lit (.bool (decide (x ∈ S))) ∧ Maps.has D (.int .i64 x) = decide (x ∈ S)
theorem IntSet.made (w : World) : IntSet (w.alloc (.map #[] 0)) w.heap.size 0 [] :=
  ⟨_, World.ownsMap_made w _ _ _, Maps.isMap_empty, rfl, fun x => by simp [DataW.atKey, Maps.has]⟩
theorem IntSet.kept {w w' : World} {b n : Nat} {S : List Int} {row : Option Nat} (h : IntSet w b n S) (hg : w.grownBy w' row) (hne : some b ≠ row) : IntSet w' b n S := by
  obtain ⟨D, h1, h2⟩ := h
  exact ⟨D, h1.kept hg hne, h2⟩
theorem IntSet.ex {w w' : World} {b n : Nat} {S : List Int} (h : IntSet w b n S) (k : Ex w w') : IntSet w' b n S :=
  h.kept (grown_ex (grown_refl w none) k) (by simp)
theorem IntSet.lt {w : World} {b n : Nat} {S : List Int} (h : IntSet w b n S) : b < w.heap.size := by
  obtain ⟨D, h1, _⟩ := h
  exact h1.lt
theorem IntSet.num {w : World} {b n : Nat} {S : List Int} (h : IntSet w b n S) : mapN w b = S.length := by
  obtain ⟨D, h1, _, hz, _⟩ := h
  rw [mapN_own h1, hz]
theorem IntSet.look {w : World} {b n : Nat} {S : List Int} (h : IntSet w b n S) (x : Int) (hx : (Lit.int .i64 x).wf = true) :
    (Instr.lookup 88 (.map (some b)) (.int .i64 x) false).run Tryz.prog w = .ok (.bool (decide (x ∈ S))) w := by
  obtain ⟨D, h1, _, _, h2⟩ := h
  obtain ⟨v, ps, hrun, hv⟩ := h1.lookup kInt Tryz.underlying88 (z := .bool false) (by kernel_rfl) (plainElem_bool Tryz.underlying4 false) (Maps.keyOf_int_mk Tryz.underlying3 hx)
  rw [(h2 x).1] at hv
  rw [hrun]
  unfold plainElem at hv
  rw [Tryz.underlying4] at hv
  cases v <;> simp at hv
  rw [hv.1]
theorem IntSet.put {w : World} {b n : Nat} {S : List Int} (h : IntSet w b n S) (hn : n < maxLen) (x : Int) (hns : ¬ x ∈ S) (hx : (Lit.int .i64 x).wf = true) :
    ∃ w', (Instr.mapUpdate 88 (.map (some b)) (.int .i64 x) (.bool true)).run Tryz.prog w = .ok () w' ∧ IntSet w' b (n + 1) (x :: S) ∧ w.grownBy w' (some b) := by
  obtain ⟨D, h1, hm, hz, h2⟩ := h
  obtain ⟨w', hrun, h3, h4⟩ := h1.update kInt Tryz.underlying88 hn (Maps.keyOf_int_mk Tryz.underlying3 hx) (plainElem_bool Tryz.underlying4 true)
  have hkl : WideAt.IsKeyLit (.int .i64 x) := by first | trivial | (simp [WideAt.IsKeyLit]) | exact True.intro
  refine ⟨w', hrun, ⟨_, h3, hm.put _ _, ?_, fun y => ?_⟩, h4⟩
  · rw [Maps.size_put (h1.tidy kInt), (h2 x).2, hz]
    simp [hns]
  · by_cases e : y = x
    · subst e
      rw [Maps.atKey_put_same hm hkl, Maps.has_put_same hm hkl]
      simp
    · have hl : (Lit.int .i64 y) ≠ .int .i64 x := by intro h; injection h with _ h; exact e h
      rw [Maps.atKey_put_other hl, Maps.has_put_other hl, (h2 y).1, (h2 y).2]
      simp [e]

theorem wpList_put_set (w : World) {ops : Array Oper} {rest : List Oper} {o : Oper} {a : Act} {Q : Exit → Act → World → Prop}
    (hg : o.guard = none) (m x v : Operand) (hop : o.op = Op.mapUpdate 88 m x v) (b n : Nat) (S : List Int) (hm : a.eval m = .map (some b)) (h : IntSet w b n S) (hn : n < maxLen) (k : Int) (hns : ¬ k ∈ S) (hx : a.eval x = .int .i64 k) (hv : a.eval v = .bool true)
    (hk : (Lit.int .i64 k).wf = true) (hK : ∀ w', IntSet w' b (n + 1) (k :: S) → w.grownBy w' (some b) → wpList Tryz.prog ops Q rest (a.put o.dst undef) w') : wpList Tryz.prog ops Q (o :: rest) a w := by
  refine wpList_plain hg fun K' hK' => ?_
  obtain ⟨w', hrun, r1, r2⟩ := h.put hn k hns hk
  unfold Oper.wp
  simp [execOp, hop, hm, hx, hv, hrun, Result.andThen]
  exact hK' _ _ (hK w' r1 r2)
theorem wpList_len_set {w : World} {ops : Array Oper} {rest : List Oper} {o : Oper} {a : Act} {Q : Exit → Act → World → Prop} (hg : o.guard = none) (m : Operand) (hop : o.op = Op.call { callee := Callee.builtin Builtin.len, args := #[m], argTypes := #[88] })
    (b n : Nat) (S : List Int) (hm : a.eval m = .map (some b)) (h : IntSet w b n S) (hK : wpList Tryz.prog ops Q rest (a.put o.dst (.int .i64 S.length)) w) : wpList Tryz.prog ops Q (o :: rest) a w := by
  obtain ⟨D, h1, _, hz, _⟩ := h
  exact wpList_len_own _ hg m _ hop _ _ Tryz.underlying88 _ b n D hm h1 (by rw [hz]; exact hK)
theorem wpList_len_keys {w : World} {ops : Array Oper} {rest : List Oper} {o : Oper} {a : Act} {Q : Exit → Act → World → Prop} (hg : o.guard = none) (m : Operand) (hop : o.op = Op.call { callee := Callee.builtin Builtin.len, args := #[m], argTypes := #[86] })
    (b n : Nat) (S : List KeyD) (hm : a.eval m = .map (some b)) (h : HasKeys w b n S) (hK : wpList Tryz.prog ops Q rest (a.put o.dst (.int .i64 S.length)) w) : wpList Tryz.prog ops Q (o :: rest) a w := by
  obtain ⟨D, h1, _, hz, _⟩ := h
  exact wpList_len_own _ hg m _ hop _ _ Tryz.underlying86 _ b n D hm h1 (by rw [hz]; exact hK)

/-- The numbers that the walk has met: those of the buckets before, and of this one so far. -/
def MetUp (n : Nat) (ls : List (List Nat)) (pre : List Nat) (S : List Int) : Prop := S.Nodup ∧ (∀ x ∈ S, 0 ≤ x ∧ x < (n : Int)) ∧ S.length = sumL ls + pre.length ∧ ∀ x ∈ S, (∃ i ∈ pre, x = (i : Int)) ∨ ∃ l ∈ ls, ∃ i ∈ l, x = (i : Int)
theorem MetUp.zero (n : Nat) : MetUp n [] [] [] := ⟨List.nodup_nil, (by intro x h; cases h), rfl, (by intro x h; cases h)⟩
theorem MetUp.step {n : Nat} {ls : List (List Nat)} {pre : List Nat} {S : List Int} (h : MetUp n ls pre S) {i : Nat} (hi : i < n) (hs : ¬ (i : Int) ∈ S) : MetUp n ls (pre ++ [i]) ((i : Int) :: S) := by
  obtain ⟨h1, h2, h3, h4⟩ := h
  refine ⟨List.nodup_cons.2 ⟨hs, h1⟩, fun x hx => ?_, by simp; omega, fun x hx => ?_⟩
  · rcases List.mem_cons.1 hx with rfl | hx
    · omega
    · exact h2 x hx
  · rcases List.mem_cons.1 hx with rfl | hx
    · exact .inl ⟨i, by simp, rfl⟩
    · rcases h4 x hx with ⟨j, hj, e⟩ | h5
      · exact .inl ⟨j, by simp [hj], e⟩
      · exact .inr h5
theorem MetUp.next {n : Nat} {ls : List (List Nat)} {pre : List Nat} {S : List Int} (h : MetUp n ls pre S) : MetUp n (ls ++ [pre]) [] S := by
  obtain ⟨h1, h2, h3, h4⟩ := h
  refine ⟨h1, h2, by rw [sumL_succ]; simpa using h3, fun x hx => ?_⟩
  rcases h4 x hx with h5 | ⟨l, hl, h5⟩
  · exact .inr ⟨pre, by simp, h5⟩
  · exact .inr ⟨l, by simp [hl], h5⟩
theorem few_ints : ∀ (n : Nat) (S : List Int), S.Nodup → (∀ x ∈ S, 0 ≤ x ∧ x < (n : Int)) → S.length ≤ n := by
  intro n S h1 h2
  have h3 : (S.map Int.toNat).Nodup := by
    refine List.pairwise_map.2 (List.Pairwise.imp_of_mem ?_ h1)
    intro a b ha hb hne e
    have := h2 a ha
    have := h2 b hb
    omega
  have h4 := nodup_few n (S.map Int.toNat) h3 (fun j hj => by
    obtain ⟨x, hx, rfl⟩ := List.mem_map.1 hj
    have := h2 x hx
    omega)
  simpa using h4
theorem MetUp.few {n : Nat} {ls : List (List Nat)} {pre : List Nat} {S : List Int} (h : MetUp n ls pre S) : S.length ≤ n := few_ints n S h.1 h.2.1
/-- The walk has come to a number that it met before. -/
theorem met_again {t : TableD} {b i n : Nat} {a : Int} {ls : List (List Nat)} {pre : List Nat} {S : List Int} {f : FrameD} (h : MetUp n ls pre S) (hb : Buckets t b ls) (hbb : b < t.buckets.length) (ha : t.buckets[b]? = some a) (hp : Trail t.frames a pre (i : Int)) (hf : t.frames[i]? = some f) (hs : (i : Int) ∈ S) : ¬ TableOk t := by
  rcases h.2.2.2 _ hs with ⟨j, hj, e⟩ | ⟨l, hl, j, hj, e⟩
  · have e2 : i = j := by omega
    subst e2
    exact not_nochain ha (hp.again hj)
  · have e2 : i = j := by omega
    subst e2
    obtain ⟨b', hb', e3⟩ := List.getElem_of_mem hl
    have hb2 : b' < b := by rw [← hb.1]; exact hb'
    obtain ⟨a', ha'⟩ : ∃ a', t.buckets[b']? = some a' := ⟨_, List.getElem?_eq_getElem (by omega)⟩
    have h5 := (hb.2 b' a' l hb2 ha' (by rw [List.getElem?_eq_getElem hb', e3])).2 i f hj hf
    exact not_hash_at ha hp hf (by rw [h5]; omega)
/-- A whole chain was walked. -/
theorem Trail.done {t : TableD} {b : Nat} {a : Int} {ls : List (List Nat)} {pre : List Nat} (hb : Buckets t b ls) (ha : t.buckets[b]? = some a) (hp : Trail t.frames a pre (-1)) (hh : ∀ (i : Nat) (f : FrameD), i ∈ pre → t.frames[i]? = some f → hashK f.key t.buckets.length = b) : Buckets t (b + 1) (ls ++ [pre]) := hb.succ ha hp.ends hh

set_option maxHeartbeats 4000000 in
theorem tableI_c (t : TableD) (A : Option Addr) (c : Nat) (B : Option Addr) (d : Nat) (w : World) (hx : Rd w A t.buckets) (hy : Rd w B t.frames) (hn : t.buckets.length ≤ 1048576) (hm : t.frames.length ≤ 1048576) (hv : FreeV w) :
    Calls Tryz.prog 24 #[.agg #[.slice A t.buckets.length c, .slice B t.frames.length d]] w fun r w' => r = .returned (.bool (tableV t)) ∧ Ex w w' := by
  have CB := zq (fun w => bucketsValid_c (t.buckets.length : Int) w)
  by_cases hh : TableHead t
  rotate_left
  · rw [tableV_no (fun h => hh h.1)]
    have h3 : t.frames.length < 1 ∨ 16 < t.frames.length ∨ ((1 ≤ t.frames.length ∧ t.frames.length ≤ 16) ∧ bkB (t.buckets.length : Int) = false) := by
      unfold TableHead at hh
      by_cases g : 1 ≤ t.frames.length ∧ t.frames.length ≤ 16
      · exact .inr (.inr ⟨g, bkB_not.2 (by omega)⟩)
      · omega
    generalize t.frames.length = n at h3 hm ⊢
    generalize t.buckets.length = m at CB hn h3 ⊢
    clear hh hx hy hv
    rcases h3 with h1 | h1 | ⟨⟨h1, h2⟩, h3⟩
    · go_enter Tryz.func24, Tryz.ntmps24
      go_wp2
      go_ret
      exact ⟨rfl, (by with_reducible repeat' (first | exact Ex.refl _ | refine Ex.alloc ?_ _ | refine Ex.drew ?_ | refine Ex.put ?_ (by omega) _))⟩
    · go_enter Tryz.func24, Tryz.ntmps24
      go_wp2
      go_ret
      exact ⟨rfl, (by with_reducible repeat' (first | exact Ex.refl _ | refine Ex.alloc ?_ _ | refine Ex.drew ?_ | refine Ex.put ?_ (by omega) _))⟩
    · rw [h3] at CB
      clear h3
      go_enter Tryz.func24, Tryz.ntmps24
      go_wp2_with fail
      refine (CB.out _).mono ?_
      rintro r w1 ⟨rfl, rfl⟩
      go_wp2
      go_ret
      exact ⟨rfl, (by with_reducible repeat' (first | exact Ex.refl _ | refine Ex.alloc ?_ _ | refine Ex.drew ?_ | refine Ex.put ?_ (by omega) _))⟩
  rw [show bkB (t.buckets.length : Int) = true from bkB_iff.2 (by unfold TableHead at hh; omega)] at CB
  have HH := zq hh
  obtain ⟨⟨hn1, hn2⟩, hm1, hm2⟩ := hh
  have HX := zq hx
  have HY := zq hy
  obtain ⟨n, en⟩ : ∃ n, n = t.frames.length := ⟨_, rfl⟩
  obtain ⟨m, em⟩ : ∃ m, m = t.buckets.length := ⟨_, rfl⟩
  have HN := zq en
  have HM := zq em
  rw [← en] at hn1 hn2 ⊢
  rw [← em] at hm1 hm2 CB ⊢
  have HNO : Hid (∀ w', Ex w w' → ¬ TableOk t → (Ending.returned (.bool false) = .returned (.bool (tableV t)) ∧ Ex w w')) := zq (fun w' h1 h2 => ⟨ret_bool (tableV_no h2).symm, h1⟩)
  have FK : Hid (∀ w', Ex w w' → (w'.cell? ⟨0, 0, none⟩ = some (.bool false) ∧ w'.cell? ⟨0, 1, none⟩ = some (.int .i64 0) ∧ w'.cell? ⟨0, 2, none⟩ = some (.int .i64 0) ∧ w'.cell? ⟨0, 3, none⟩ = some (.int .i64 0) ∧ w'.cell? ⟨0, 4, none⟩ = some (.int .i64 (-1)))) := zq (fun w' h => by
    have k := hv.ex h
    exact ⟨k.c0, k.c1, k.c2, k.c3, k.c4⟩)
  have h0w : 0 < w.heap.size := hv.lt
  clear hx hy hn hm en em hv
  go_enter Tryz.func24, Tryz.ntmps24
  go_wp2_with fail
  refine (CB.out _).mono ?_
  rintro r w1 ⟨rfl, rfl⟩
  clear CB
  have hmm := @run_makeMap Tryz.prog
  go_wp2
  clear hmm
  go_loopw [30] (fun i wr => ∃ (k : Nat) (S : List KeyD), k ≤ n ∧ i = .int .i64 k ∧ FramesUp t.frames k ∧ KeysUp t.frames k S ∧ HasKeys wr (w.heap.size + 1) (usedN t.frames k) S ∧ S.length = usedN t.frames k ∧ Blk wr w.heap.size 26 [.slice A m c, .slice B n d] ∧ Ex w wr) (fun i _ => n - (intOf i).toNat)
  case atStart => exact ⟨0, [], Nat.zero_le _, rfl, framesUp_zero _, keysUp_zero _, (by have h := HasKeys.made (w.alloc (.cells #[.slice A m c, .slice B n d] 26)); rw [usedN_zero]; simpa using h), rfl, (Blk.new _ _ _).alloc _, ((Ex.refl _).alloc _).alloc _⟩
  case round =>
    obtain ⟨k, S, hk, rfl, hup, hks, hmap, hsl, hbk, hex⟩ := hrel
    have HSL := zq hsl
    have HU := zq hup
    have HKS := zq hks
    have HMP := zq hmap
    have KX := zq hbk
    have HE := zq hex
    clear hup hks hmap hsl hbk hex
    by_cases hlt : k < n
    · obtain ⟨b2, o2, f, rfl, hb2, hfi, k0, k1, k2, k3, k4⟩ := (HY.out.ex HE.out).frame (k := k) (by have := HN.out; omega)
      have HFI := zq hfi
      have HUS := zq (usedN_succ hfi)
      clear hfi
      have hgw := Ex.size HE.out
      cases hu : f.used
      · have HFU := zq hu
        rw [hu] at k0
        obtain ⟨z0, z1, z2, z3, z4⟩ := FK.out wr HE.out
        have hz0 : 0 < wr.heap.size := by omega
        have hneq := neq_frame f freeF
        simp only [freeF, hu] at hneq
        have hgd := guardFrame
        cases hq : eqB f ⟨false, ⟨0, 0⟩, 0, -1⟩
        · rw [hq] at hneq
          have HQ := zq (eqB_false.1 hq)
          clear hu hq
          go_wp2
          go_ret
          exact HNO.out _ (HE.out.alloc _) (not_frames HFI.out (fun h => HQ.out (h.1.1 HFU.out)))
        · rw [hq] at hneq
          have HQ := zq (eqB_true.1 hq)
          clear hu hq
          go_wp2
          go_roundw
          case rel => exact ⟨k + 1, S, by omega, by go_num, framesUp_succ HU.out HFI.out ⟨fun _ => HQ.out, fun h => by rw [HFU.out] at h; cases h⟩ (fun j g h1 h2 h3 => by rw [HFU.out] at h3; cases h3), keysUp_no HKS.out HFI.out HFU.out, by rw [HUS.out, HFU.out]; exact HMP.out.ex ((Ex.refl _).alloc _), by rw [HUS.out, HFU.out]; exact HSL.out, KX.out.alloc _, HE.out.alloc _⟩
          case measure => simp [intOf]; omega
      · have HFU := zq hu
        rw [hu] at k0
        have C1 := zq (fun w => keyI_c f.key w)
        have C2 := zq (fun w => rightsI_c f.rights w)
        clear hu
        cases hkb : keyB f.key
        · rw [hkb] at C1
          have HB := zq hkb
          clear hkb
          go_wp2_with fail
          refine (C1.out _).mono ?_
          rintro r w2 ⟨rfl, he⟩
          have HE2 := zq ((HE.out.alloc _).trans he)
          clear he
          go_wp2
          go_ret
          exact HNO.out _ HE2.out (not_frames HFI.out (fun h => by have := keyB_iff.2 (h.1.2 HFU.out).1; rw [HB.out] at this; cases this))
        rw [hkb] at C1
        have HB : Hid (keyOk f.key) := zq (keyB_iff.1 hkb)
        clear hkb
        go_wp2_with fail
        refine (C1.out _).mono ?_
        rintro r w2 ⟨rfl, he⟩
        have HE2 := zq ((HE.out.alloc _).trans he)
        have KF : Hid (Blk w2 wr.heap.size 45 [.bool true, .int .i64 f.key.space, .int .i64 f.key.page, .int .i64 f.rights, .int .i64 f.next]) := zq ((Blk.new wr _ _).ex he)
        have KX2 := zq ((KX.out.alloc _).ex he)
        have HMP2 := zq ((HMP.out.ex ((Ex.refl _).alloc _)).ex he)
        clear he k0 k1 k2 k3 k4
        obtain ⟨k0, k1, k2, k3, k4⟩ := KF.out.c5
        have jF := KF.out.lt
        cases hrb : inB f.rights 8
        · rw [hrb] at C2
          have HR := zq hrb
          clear hrb
          go_wp2_with fail
          refine (C2.out _).mono ?_
          rintro r w3 ⟨rfl, rfl⟩
          go_wp2
          go_ret
          exact HNO.out _ HE2.out (not_frames HFI.out (fun h => by have := inB_true.2 (h.1.2 HFU.out).2; rw [HR.out] at this; cases this))
        rw [hrb] at C2
        have HR := zq (inB_true.1 hrb)
        clear hrb
        obtain ⟨lk, hlk⟩ := keyOf_key f.key (WalkArith.wf_i64 (by have := HB.out.1; omega)) (WalkArith.wf_i64 (by have := HB.out.2; omega))
        have HLK := zq hlk
        have hloo := HMP2.out.look f.key hlk
        clear hlk
        by_cases hin : f.key ∈ S
        · rw [decide_eq_true hin] at hloo
          have HIN := zq hin
          clear hin
          go_wp2_with fail
          refine (C2.out _).mono ?_
          rintro r w3 ⟨rfl, rfl⟩
          go_wp2
          go_ret
          exact HNO.out _ HE2.out (not_frames HFI.out (fun h => key_again HKS.out HIN.out HFU.out h.2))
        · rw [decide_eq_false hin] at hloo
          have HIN := zq hin
          have hul := usedN_le t.frames k
          clear hin
          go_wp2_with fail
          refine (C2.out _).mono ?_
          rintro r w3 ⟨rfl, rfl⟩
          go_wp2_with (at_mapUpdate; go_must (refine wpList_put_key _ rfl _ _ _ rfl (w.heap.size + 1) (usedN t.frames k) S rfl HMP2.out (by simp only [maxLen]; omega) f.key HIN.out rfl rfl HLK.out ?_); intro w4 hs4 hg4)
          go_roundw
          case rel => exact ⟨k + 1, f.key :: S, by omega, by go_num, framesUp_succ HU.out HFI.out ⟨(fun h => by rw [HFU.out] at h; cases h), (fun _ => ⟨HB.out, HR.out⟩)⟩ (key_fresh HKS.out HIN.out), keysUp_yes HKS.out HFI.out HFU.out, by rw [HUS.out, HFU.out]; exact hs4, by rw [HUS.out, HFU.out, List.length_cons, HSL.out]; rfl, KX2.out.grown hg4 (by intro e; injection e with e; omega), HE2.out.grown hg4 (fun g hg => by injection hg with hg; omega)⟩
          case measure => simp [intOf]; omega
    · -- BUCKETS
      obtain rfl : k = n := by omega
      have HU3 : Hid (FramesUp t.frames t.frames.length) := zq (by rw [← HN.out]; exact HU.out)
      have hul := usedN_le t.frames k
      have HUN : Hid (usedN t.frames k = usedN t.frames t.frames.length) := zq (by rw [← HN.out])
      generalize usedN t.frames k = un at hul HUN HMP HSL
      obtain ⟨q0, q1⟩ := KX.out.c2
      have jX := KX.out.lt
      have HIS0 := zq (IntSet.made wr)
      have HMP0 := zq (HMP.out.ex ((Ex.refl wr).alloc (.map #[] 0)))
      have KX0 := zq (KX.out.alloc (.map #[] 0))
      have HE0 := zq (HE.out.alloc (.map #[] 0))
      have HG0 : Hid (w.heap.size + 1 < wr.heap.size ∧ w.heap.size < wr.heap.size) := zq ⟨HMP.out.lt, jX⟩
      have hmm := @run_makeMap Tryz.prog
      clear HU HKS HMP KX HE
      go_wp2
      clear hmm q0 q1 jX
      obtain ⟨wa, hwa⟩ : ∃ wa : World, wa = wr.alloc (.map #[] 0) := ⟨_, rfl⟩
      obtain ⟨g, hg⟩ : ∃ g, g = wr.heap.size := ⟨_, rfl⟩
      rw [← hwa, ← hg] at HIS0
      rw [← hwa] at HMP0 KX0 HE0
      rw [← hg] at HG0
      rw [← hwa, ← hg]
      clear hwa hg
      go_loopw [75] (fun i wb => ∃ (b : Nat) (ls : List (List Nat)) (S2 : List Int), b ≤ m ∧ i = .int .i64 b ∧ Buckets t b ls ∧ MetUp k ls [] S2 ∧ IntSet wb g (sumL ls) S2 ∧ HasKeys wb (w.heap.size + 1) un S ∧ Blk wb w.heap.size 26 [.slice A m c, .slice B k d] ∧ Ex w wb) (fun i _ => m - (intOf i).toNat)
      case atStart => exact ⟨0, [], [], Nat.zero_le _, rfl, Buckets.zero _, MetUp.zero _, HIS0.out, HMP0.out, KX0.out, HE0.out⟩
      case round =>
        clear HIS0 HMP0 KX0 HE0
        obtain ⟨b, ls, S2, hb, rfl, hbu, hmu, his, hmp, hkx, hexb⟩ := hrel
        have HBU := zq hbu
        have HMU := zq hmu
        have HIS := zq his
        have HMP := zq hmp
        have KX := zq hkx
        have HE := zq hexb
        clear hbu hmu his hmp hkx hexb
        by_cases hbm : b < m
        · obtain ⟨b5, o5, y, rfl, hb5, hyb, hcy⟩ := (HX.out.ex HE.out).int (k := b) (by have := HM.out; omega)
          have HA0 := zq hyb
          have HB5 : Hid (b < t.buckets.length) := zq (by have := HM.out; omega)
          clear hyb
          obtain ⟨q0, q1⟩ := KX.out.c2
          have jX := KX.out.lt
          go_wp2
          clear q0 q1 jX hcy hb5
          go_loopw [9] (fun i wq => ∃ (pre : List Nat) (a : Int) (S3 : List Int), i = .int .i64 a ∧ Trail t.frames y pre a ∧ (∀ (x : Nat) (f : FrameD), x ∈ pre → t.frames[x]? = some f → hashK f.key t.buckets.length = b) ∧ MetUp k ls pre S3 ∧ IntSet wq g (sumL ls + pre.length) S3 ∧ HasKeys wq (w.heap.size + 1) un S ∧ Blk wq w.heap.size 26 [.slice (some ⟨b5, o5, none⟩) m c, .slice B k d] ∧ Ex w wq) (fun _ wq => k + 1 - mapN wq g)
          case atStart => exact ⟨[], y, S2, rfl, Trail.start _ _, (fun x f h => by cases h), HMU.out, HIS.out, HMP.out, KX.out, HE.out⟩
          case round =>
            clear HMU HIS HMP KX HE S2
            obtain ⟨pre, a, S3, rfl, htr, hph, hmu, his, hmp, hkx, hexq⟩ := hrel
            have HTR := zq htr
            have HPH := zq hph
            have HMU := zq hmu
            have HIS := zq his
            have HMP := zq hmp
            have KX := zq hkx
            have HE := zq hexq
            clear htr hph hmu his hmp hkx hexq
            by_cases ha1 : a = -1
            · subst ha1
              go_wp2
              go_roundw
              case rel => exact ⟨b + 1, ls ++ [pre], S3, by omega, by go_num, Trail.done HBU.out HA0.out HTR.out HPH.out, HMU.out.next, by rw [sumL_succ]; exact HIS.out, HMP.out, KX.out, HE.out⟩
              case measure => simp [intOf]; omega
            have CEW : Hid (∀ (args : Array Value) (w : World), (callFunc 16 args).run Tryz.prog w = .ok (.enter 16 args) w) := zq (enters Tryz.func16 (by kernel_rfl) (by kernel_rfl))
            have CEH : Hid (∀ (args : Array Value) (w : World), (callFunc 54 args).run Tryz.prog w = .ok (.enter 54 args) w) := zq (enters Tryz.func54 (by kernel_rfl) (by kernel_rfl))
            have CW := zq (fun w => within_c a (k : Int) w)
            by_cases hin : 0 ≤ a ∧ a < k
            rotate_left
            · rw [show inB a (k : Int) = false from by cases h : inB a (k : Int); rfl; exact absurd (inB_true.1 h) hin] at CW
              have HIN := zq hin
              have HA1 := zq ha1
              clear hin
              go_wp2_with fail
              refine wp_region_held_drew (S := (fun w' => True)) (by kernel_rfl) ?r0_hS0 (fun hHeld => ?_)
              case r0_hS0 => exact trivial
              refine tk 0 ?_; refine tk 1 ?_
              refine wpAnyH_ready (rs := [2]) (by kernel_rfl) (by simp) ?_
              refine AllReadyH.cons (o := ?r0_o2) ?r0_ho2 (fun K hK => ?_) AllReadyH.nil
              case r0_ho2 => (conv => lhs; whnf; arg 1; whnf)
              refine step_call_gu rfl CEW.out _ _ rfl #[.int .i64 a, .int .i64 k] rfl (CW.out _) ?_; rintro r wb ⟨rfl, rfl⟩; refine ⟨_, rfl, ?_⟩
              refine hK.out _ _ ?r0_hS2 (fun hHeld2 => ?_)
              case r0_hS2 => exact trivial
              clear hK K hHeld
              try simp only [Act.put, List.setIfInBounds_toArray, List.set_cons_zero, List.set_cons_succ]
              refine tk 3 ?_; refine tk 4 ?_; refine tn 5 ?_; refine tn 6 ?_; refine tn 7 ?_; refine tk 8 ?_; refine tk 9 ?_; refine tn 10 ?_; refine tn 11 ?_; refine tn 12 ?_; refine tn 13 ?_; refine tn 14 ?_; refine tn 15 ?_; refine tn 16 ?_
              refine tk 17 ?_; refine tk 18 ?_; refine tn 19 ?_; refine tn 20 ?_; refine tn 21 ?_; refine tn 22 ?_; refine tn 23 ?_; refine tn 24 ?_; refine tn 25 ?_; refine tn 26 ?_; refine tn 27 ?_; refine tn 28 ?_; refine tn 29 ?_; refine tn 30 ?_
              refine tk 31 ?_
              refine wpAnyH_done (by kernel_rfl) ?_ _
              go_wp2
              go_ret
              exact HNO.out _ HE.out.drew (not_nochain HA0.out (HTR.out.bad (fun x f e hf => absurd (by have := getElem?_lt hf; have := HN.out; omega) HIN.out) HA1.out))
            rw [inB_true.2 hin] at CW
            obtain ⟨x, rfl⟩ : ∃ x : Nat, a = (x : Int) := ⟨a.toNat, by omega⟩
            have hxk : x < k := by omega
            have hwx : (Lit.int .i64 (x : Int)).wf = true := WalkArith.wf_i64 (by omega)
            obtain ⟨b2, o2, f, rfl, hb2, hfx, k0, k1, k2, k3, k4⟩ := (HY.out.ex HE.out).frame (k := x) (by have := HN.out; omega)
            have HFX := zq hfx
            have HWX := zq hwx
            clear hin hwx hfx
            by_cases hs3 : (x : Int) ∈ S3
            · have FK : Hid (∀ w', Ex wr w' → ((Instr.lookup 88 (.map (some g)) (.int .i64 (x : Int)) false).run Tryz.prog w' = .ok (.bool true) w')) := zq (fun w' h => by have := (HIS.out.ex h).look x HWX.out; rwa [decide_eq_true hs3] at this)
              have HS3 := zq hs3
              clear hs3 k0 k1 k2 k3 k4
              go_wp2_with fail
              refine wp_region_held_drew (S := (fun w' => ((Instr.lookup 88 (.map (some g)) (.int .i64 (x : Int)) false).run Tryz.prog w' = .ok (.bool true) w'))) (by kernel_rfl) ?r1_hS0 (fun hHeld => ?_)
              case r1_hS0 => exact FK.out _ (Ex.refl _).drew
              refine tk 0 ?_; refine tk 1 ?_
              refine wpAnyH_ready (rs := [2]) (by kernel_rfl) (by simp) ?_
              refine AllReadyH.cons (o := ?r1_o2) ?r1_ho2 (fun K hK => ?_) AllReadyH.nil
              case r1_ho2 => (conv => lhs; whnf; arg 1; whnf)
              refine step_call_gu rfl CEW.out _ _ rfl #[.int .i64 x, .int .i64 k] rfl (CW.out _) ?_; rintro r wb ⟨rfl, rfl⟩; refine ⟨_, rfl, ?_⟩
              refine hK.out _ _ ?r1_hS2 (fun hHeld2 => ?_)
              case r1_hS2 => exact FK.out _ (Ex.refl _).drew
              clear hK K hHeld
              try simp only [Act.put, List.setIfInBounds_toArray, List.set_cons_zero, List.set_cons_succ]
              refine tk 3 ?_; refine tk 4 ?_; refine tk 5 ?_; refine tk 6 ?_; refine tk 7 ?_; refine tk 8 ?_; refine tk 9 ?_; refine tn 10 ?_; refine tn 11 ?_; refine tn 12 ?_; refine tn 13 ?_; refine tn 14 ?_; refine tn 15 ?_; refine tn 16 ?_
              refine tk 17 ?_; refine tk 18 ?_; refine tn 19 ?_; refine tn 20 ?_; refine tn 21 ?_; refine tn 22 ?_; refine tn 23 ?_; refine tn 24 ?_; refine tn 25 ?_; refine tn 26 ?_; refine tn 27 ?_; refine tn 28 ?_; refine tn 29 ?_; refine tn 30 ?_
              refine tk 31 ?_
              refine wpAnyH_done (by kernel_rfl) ?_ _
              go_wp2
              go_ret
              exact HNO.out _ HE.out.drew (met_again HMU.out HBU.out HB5.out HA0.out HTR.out HFX.out HS3.out)
            cases hu : f.used
            · rw [hu] at k0
              have FK : Hid (∀ w', Ex wr w' → ((Instr.lookup 88 (.map (some g)) (.int .i64 (x : Int)) false).run Tryz.prog w' = .ok (.bool false) w' ∧ w'.cell? ⟨w.heap.size, 0, none⟩ = some (.slice (some ⟨b5, o5, none⟩) m c) ∧ w'.cell? ⟨w.heap.size, 1, none⟩ = some (.slice (some ⟨b2, o2, none⟩) k d) ∧ w'.cell? ⟨b2, o2 + x * 5, none⟩ = some (.bool false) ∧ w'.cell? ⟨b2, o2 + x * 5 + 1, none⟩ = some (.int .i64 f.key.space) ∧ w'.cell? ⟨b2, o2 + x * 5 + 2, none⟩ = some (.int .i64 f.key.page))) := zq (fun w' h => ⟨by have := (HIS.out.ex h).look x HWX.out; rwa [decide_eq_false hs3] at this, (KX.out.ex h).c2.1, (KX.out.ex h).c2.2, (h.cell hb2).trans k0, (h.cell hb2).trans k1, (h.cell hb2).trans k2⟩)
              have HU := zq hu
              have jX := KX.out.lt
              clear hs3 hu k0 k1 k2 k3 k4
              go_wp2_with fail
              refine wp_region_held_drew (S := (fun w' => ((Instr.lookup 88 (.map (some g)) (.int .i64 (x : Int)) false).run Tryz.prog w' = .ok (.bool false) w' ∧ w'.cell? ⟨w.heap.size, 0, none⟩ = some (.slice (some ⟨b5, o5, none⟩) m c) ∧ w'.cell? ⟨w.heap.size, 1, none⟩ = some (.slice (some ⟨b2, o2, none⟩) k d) ∧ w'.cell? ⟨b2, o2 + x * 5, none⟩ = some (.bool false) ∧ w'.cell? ⟨b2, o2 + x * 5 + 1, none⟩ = some (.int .i64 f.key.space) ∧ w'.cell? ⟨b2, o2 + x * 5 + 2, none⟩ = some (.int .i64 f.key.page)))) (by kernel_rfl) ?r2_hS0 (fun hHeld => ?_)
              case r2_hS0 => exact FK.out _ (Ex.refl _).drew
              refine tk 0 ?_; refine tk 1 ?_
              refine wpAnyH_ready (rs := [2]) (by kernel_rfl) (by simp) ?_
              refine AllReadyH.cons (o := ?r2_o2) ?r2_ho2 (fun K hK => ?_) AllReadyH.nil
              case r2_ho2 => (conv => lhs; whnf; arg 1; whnf)
              refine step_call_gu rfl CEW.out _ _ rfl #[.int .i64 x, .int .i64 k] rfl (CW.out _) ?_; rintro r wb ⟨rfl, rfl⟩; refine ⟨_, rfl, ?_⟩
              refine hK.out _ _ ?r2_hS2 (fun hHeld2 => ?_)
              case r2_hS2 => exact FK.out _ (Ex.refl _).drew
              clear hK K hHeld
              try simp only [Act.put, List.setIfInBounds_toArray, List.set_cons_zero, List.set_cons_succ]
              refine tk 3 ?_; refine tk 4 ?_; refine tk 5 ?_; refine tk 6 ?_; refine tk 7 ?_; refine tk 8 ?_; refine tk 9 ?_; refine tk 10 ?_; refine tk 11 ?_; refine tk 12 ?_; refine tk 13 ?_; refine tk 14 ?_; refine tk 15 ?_; refine tk 16 ?_
              refine tk 17 ?_; refine tk 18 ?_; refine tn 19 ?_; refine tn 20 ?_; refine tn 21 ?_; refine tn 22 ?_; refine tn 23 ?_; refine tn 24 ?_; refine tn 25 ?_; refine tn 26 ?_; refine tn 27 ?_; refine tn 28 ?_; refine tn 29 ?_; refine tn 30 ?_
              refine tk 31 ?_
              refine wpAnyH_done (by kernel_rfl) ?_ _
              go_wp2
              go_ret
              exact HNO.out _ HE.out.drew (not_nochain HA0.out (HTR.out.bad (fun i f' e hf => by
                have e2 : i = x := by omega
                subst e2
                rw [HFX.out] at hf
                injection hf with hf
                rw [← hf]
                exact HU.out) (by omega)))
            rw [hu] at k0
            have HU := zq hu
            have hkok : keyOk f.key := ((HU3.out x f (getElem?_lt HFX.out) HFX.out).1.2 hu).1
            have FK : Hid (∀ w', Ex wr w' → ((Instr.lookup 88 (.map (some g)) (.int .i64 (x : Int)) false).run Tryz.prog w' = .ok (.bool false) w' ∧ w'.cell? ⟨w.heap.size, 0, none⟩ = some (.slice (some ⟨b5, o5, none⟩) m c) ∧ w'.cell? ⟨w.heap.size, 1, none⟩ = some (.slice (some ⟨b2, o2, none⟩) k d) ∧ w'.cell? ⟨b2, o2 + x * 5, none⟩ = some (.bool true) ∧ w'.cell? ⟨b2, o2 + x * 5 + 1, none⟩ = some (.int .i64 f.key.space) ∧ w'.cell? ⟨b2, o2 + x * 5 + 2, none⟩ = some (.int .i64 f.key.page))) := zq (fun w' h => ⟨by have := (HIS.out.ex h).look x HWX.out; rwa [decide_eq_false hs3] at this, (KX.out.ex h).c2.1, (KX.out.ex h).c2.2, (h.cell hb2).trans k0, (h.cell hb2).trans k1, (h.cell hb2).trans k2⟩)
            have CH := zq (fun w => hashI_c f.key (m : Int) w hkok (by omega) (by omega))
            have HHV : Hid (hashK f.key (m : Int) = hashK f.key t.buckets.length) := zq (by rw [← HM.out])
            generalize hashK f.key (m : Int) = hv at CH HHV
            have HS3 := zq hs3
            have HB2 := zq hb2
            have K4 := zq k4
            have jX := KX.out.lt
            clear hs3 hu k0 k1 k2 k3 k4 hkok
            by_cases ehv : hv = (b : Int)
            · subst ehv
              go_wp2_with fail
              refine wp_region_held_drew (S := (fun w' => ((Instr.lookup 88 (.map (some g)) (.int .i64 (x : Int)) false).run Tryz.prog w' = .ok (.bool false) w' ∧ w'.cell? ⟨w.heap.size, 0, none⟩ = some (.slice (some ⟨b5, o5, none⟩) m c) ∧ w'.cell? ⟨w.heap.size, 1, none⟩ = some (.slice (some ⟨b2, o2, none⟩) k d) ∧ w'.cell? ⟨b2, o2 + x * 5, none⟩ = some (.bool true) ∧ w'.cell? ⟨b2, o2 + x * 5 + 1, none⟩ = some (.int .i64 f.key.space) ∧ w'.cell? ⟨b2, o2 + x * 5 + 2, none⟩ = some (.int .i64 f.key.page)))) (by kernel_rfl) ?r3_hS0 (fun hHeld => ?_)
              case r3_hS0 => exact FK.out _ (Ex.refl _).drew
              refine tk 0 ?_; refine tk 1 ?_
              refine wpAnyH_ready (rs := [2]) (by kernel_rfl) (by simp) ?_
              refine AllReadyH.cons (o := ?r3_o2) ?r3_ho2 (fun K hK => ?_) AllReadyH.nil
              case r3_ho2 => (conv => lhs; whnf; arg 1; whnf)
              refine step_call_gu rfl CEW.out _ _ rfl #[.int .i64 x, .int .i64 k] rfl (CW.out _) ?_; rintro r wb ⟨rfl, rfl⟩; refine ⟨_, rfl, ?_⟩
              refine hK.out _ _ ?r3_hS2 (fun hHeld2 => ?_)
              case r3_hS2 => exact FK.out _ (Ex.refl _).drew
              clear hK K hHeld
              try simp only [Act.put, List.setIfInBounds_toArray, List.set_cons_zero, List.set_cons_succ]
              refine tk 3 ?_; refine tk 4 ?_; refine tk 5 ?_; refine tk 6 ?_; refine tk 7 ?_; refine tk 8 ?_; refine tk 9 ?_; refine tk 10 ?_; refine tk 11 ?_; refine tk 12 ?_; refine tk 13 ?_; refine tk 14 ?_; refine tk 15 ?_; refine tk 16 ?_
              refine tk 17 ?_; refine tk 18 ?_; refine tk 19 ?_; refine tk 20 ?_; refine tk 21 ?_; refine tk 22 ?_; refine tk 23 ?_; refine tk 24 ?_; refine tk 25 ?_; refine tk 26 ?_; refine tk 27 ?_; refine tk 29 ?_
              refine wpAnyH_ready (rs := [28]) (by kernel_rfl) (by simp) ?_
              refine AllReadyH.cons (o := ?r3_o28) ?r3_ho28 (fun K hK => ?_) AllReadyH.nil
              case r3_ho28 => (conv => lhs; whnf; arg 1; whnf)
              refine step_call_gu rfl CEH.out _ _ rfl #[.agg #[.int .i64 f.key.space, .int .i64 f.key.page], .int .i64 m] rfl (CH.out _) ?_; rintro r wa ⟨rfl, hwa⟩; refine ⟨_, rfl, ?_⟩; have hxa := Ex.trans (Ex.refl _).drew hwa
              refine hK.out _ _ ?r3_hS28 (fun hHeld28 => ?_)
              case r3_hS28 => exact FK.out _ hxa
              clear hK K hHeld2
              try simp only [Act.put, List.setIfInBounds_toArray, List.set_cons_zero, List.set_cons_succ]
              refine tk 30 ?_; refine tk 31 ?_
              refine wpAnyH_done (by kernel_rfl) ?_ _
              have HEA := zq hxa
              have hfew : (pre ++ [x]).length + sumL ls ≤ k := by
                have h1 := (HMU.out.step hxk HS3.out).few
                have h2 := (HMU.out.step hxk HS3.out).2.2.1
                omega
              have hfew2 : sumL ls + pre.length < k := by simp at hfew; omega
              clear hfew hxa hwa
              go_wp2_with (at_mapUpdate; go_must (refine wpList_put_set _ rfl _ _ _ rfl g (sumL ls + pre.length) S3 rfl (HIS.out.ex HEA.out) (by simp only [maxLen]; omega) (x : Int) HS3.out rfl rfl HWX.out ?_); intro w4 hs4 hg4; have HE4 := zq ((HE.out.trans HEA.out).grown hg4 (fun z hz => by injection hz with hz; have := HG0.out; omega)); have KX4 := zq ((KX.out.ex HEA.out).grown hg4 (by intro e; injection e with e; have := HG0.out; omega)); obtain ⟨q0, q1⟩ := KX4.out.c2; have jX4 := KX4.out.lt; obtain ⟨b3, o3, f3, e3, hb3, hf3, j0, j1, j2, j3, j4⟩ := (HY.out.ex HE4.out).frame (k := x) (by have := HN.out; omega); injection e3 with e3; injection e3 with e4 e5; subst e4; subst e5; have e6 : f = f3 := (by rw [HFX.out] at hf3; injection hf3); subst e6; clear hf3 j0 j1 j2 j3)
              go_roundw
              case rel => exact ⟨pre ++ [x], f.next, (x : Int) :: S3, rfl, HTR.out.step HFX.out HU.out, (fun i f' hi hf => by
                rcases List.mem_append.1 hi with hi | hi
                · exact HPH.out i f' hi hf
                · have e7 : i = x := by simpa using hi
                  subst e7
                  rw [HFX.out] at hf
                  injection hf with hf
                  rw [← hf]
                  exact HHV.out.symm), HMU.out.step hxk HS3.out, by simpa [Nat.add_assoc] using hs4, (HMP.out.ex HEA.out).kept hg4 (by intro e; injection e with e; have := HG0.out; omega), KX4.out, HE4.out⟩
              case measure => rw [hs4.num, HIS.out.num, HMU.out.2.2.1, List.length_cons, HMU.out.2.2.1]; omega
            · have HEHV := zq ehv
              go_wp2_with fail
              refine wp_region_held_drew (S := (fun w' => ((Instr.lookup 88 (.map (some g)) (.int .i64 (x : Int)) false).run Tryz.prog w' = .ok (.bool false) w' ∧ w'.cell? ⟨w.heap.size, 0, none⟩ = some (.slice (some ⟨b5, o5, none⟩) m c) ∧ w'.cell? ⟨w.heap.size, 1, none⟩ = some (.slice (some ⟨b2, o2, none⟩) k d) ∧ w'.cell? ⟨b2, o2 + x * 5, none⟩ = some (.bool true) ∧ w'.cell? ⟨b2, o2 + x * 5 + 1, none⟩ = some (.int .i64 f.key.space) ∧ w'.cell? ⟨b2, o2 + x * 5 + 2, none⟩ = some (.int .i64 f.key.page)))) (by kernel_rfl) ?r4_hS0 (fun hHeld => ?_)
              case r4_hS0 => exact FK.out _ (Ex.refl _).drew
              refine tk 0 ?_; refine tk 1 ?_
              refine wpAnyH_ready (rs := [2]) (by kernel_rfl) (by simp) ?_
              refine AllReadyH.cons (o := ?r4_o2) ?r4_ho2 (fun K hK => ?_) AllReadyH.nil
              case r4_ho2 => (conv => lhs; whnf; arg 1; whnf)
              refine step_call_gu rfl CEW.out _ _ rfl #[.int .i64 x, .int .i64 k] rfl (CW.out _) ?_; rintro r wb ⟨rfl, rfl⟩; refine ⟨_, rfl, ?_⟩
              refine hK.out _ _ ?r4_hS2 (fun hHeld2 => ?_)
              case r4_hS2 => exact FK.out _ (Ex.refl _).drew
              clear hK K hHeld
              try simp only [Act.put, List.setIfInBounds_toArray, List.set_cons_zero, List.set_cons_succ]
              refine tk 3 ?_; refine tk 4 ?_; refine tk 5 ?_; refine tk 6 ?_; refine tk 7 ?_; refine tk 8 ?_; refine tk 9 ?_; refine tk 10 ?_; refine tk 11 ?_; refine tk 12 ?_; refine tk 13 ?_; refine tk 14 ?_; refine tk 15 ?_; refine tk 16 ?_
              refine tk 17 ?_; refine tk 18 ?_; refine tk 19 ?_; refine tk 20 ?_; refine tk 21 ?_; refine tk 22 ?_; refine tk 23 ?_; refine tk 24 ?_; refine tk 25 ?_; refine tk 26 ?_; refine tk 27 ?_; refine tk 29 ?_
              refine wpAnyH_ready (rs := [28]) (by kernel_rfl) (by simp) ?_
              refine AllReadyH.cons (o := ?r4_o28) ?r4_ho28 (fun K hK => ?_) AllReadyH.nil
              case r4_ho28 => (conv => lhs; whnf; arg 1; whnf)
              refine step_call_gu rfl CEH.out _ _ rfl #[.agg #[.int .i64 f.key.space, .int .i64 f.key.page], .int .i64 m] rfl (CH.out _) ?_; rintro r wa ⟨rfl, hwa⟩; refine ⟨_, rfl, ?_⟩; have hxa := Ex.trans (Ex.refl _).drew hwa
              refine hK.out _ _ ?r4_hS28 (fun hHeld28 => ?_)
              case r4_hS28 => exact FK.out _ hxa
              clear hK K hHeld2
              try simp only [Act.put, List.setIfInBounds_toArray, List.set_cons_zero, List.set_cons_succ]
              refine tk 30 ?_; refine tk 31 ?_
              refine wpAnyH_done (by kernel_rfl) ?_ _
              go_wp2
              go_ret
              exact HNO.out _ (HE.out.trans hxa) (not_hash_at HA0.out HTR.out HFX.out (by rw [← HHV.out]; exact HEHV.out))
        · obtain rfl : b = m := by omega
          have h1 := HMU.out.2.2.1
          have h2 := HSL.out
          have H1 := zq h1
          clear h1 h2
          go_wp2_with (at_len; first | (refine wpList_len_set rfl _ rfl g (sumL ls) S2 rfl HIS.out ?_) | (go_must (refine wpList_len_keys rfl _ rfl (w.heap.size + 1) un S rfl HMP.out ?_)))
          go_ret
          refine ⟨ret_bool ?_, HE.out⟩
          rw [Bool.eq_iff_iff, tableV_iff, tableOk_end HH.out HU3.out (HM.out ▸ HBU.out), ← HUN.out]
          have h1 := H1.out
          have h2 := HSL.out
          simp at h1 ⊢
          omega

set_option maxHeartbeats 8000000 in
theorem machI_c (m : MachD) (a : MA) (w : World) (hx : HasM w m a) (hf : FewM m) (hc : CapM m a) (hv : FreeV w) :
    Calls Tryz.prog 15 #[.agg #[.slice a.b m.table.buckets.length a.bc, .slice a.f m.table.frames.length a.fc, .slice a.l m.cache.lines.length a.lc, .int .i64 m.cache.hand, .int .i64 m.tags.count, .int .i64 m.tags.next, .int .i64 m.tags.round, .slice a.o m.tags.owns.length a.oc, .int .i64 m.space]] w fun r w' => r = .returned (.bool (machV m)) ∧ Ex w w' := by
  obtain ⟨A, c, B, d, L, e, O, g⟩ := a
  have HB : Hid (Rd w A m.table.buckets) := zq hx.b
  have HF : Hid (Rd w B m.table.frames) := zq hx.f
  have HL : Hid (Rd w L m.cache.lines) := zq hx.l
  have HO : Hid (Rd w O m.tags.owns) := zq hx.o
  have HV := zq hv
  have C1 := zq (fun w' (h1 : Rd w' A m.table.buckets) (h2 : Rd w' B m.table.frames) (h3 : FreeV w') => tableI_c m.table A c B d w' h1 h2 hf.b hf.f h3)
  have C2 := zq (fun w' (h1 : Rd w' L m.cache.lines) => cacheValidI_c m.cache L e w' h1 hf.l hc.l)
  have C3 := zq (fun w' (h1 : Rd w' O m.tags.owns) => tagsValidI_c m.tags O g w' h1 hf.o hc.o)
  have C4 := zq (fun w' (h1 : Rd w' O m.tags.owns) => ownI_c m.tags m.space O g w' h1 hf.o)
  clear hx hv
  dsimp only
  cases h1 : tableV m.table
  · rw [machV_no (fun h => by have := tableV_yes h.1.1; rw [h1] at this; cases this)]
    rw [h1] at C1
    generalize m.table.frames.length = n at C1 ⊢
    generalize m.table.buckets.length = nb at C1 ⊢
    generalize m.cache.lines.length = nl at C2 ⊢
    generalize m.tags.owns.length = no at C3 C4 ⊢
    go_enter Tryz.func15, Tryz.ntmps15
    go_wp2_with fail
    have K0 : Hid (Blk (w.alloc (.cells #[.slice A nb c, .slice B n d, .slice L nl e, .int .i64 m.cache.hand, .int .i64 m.tags.count, .int .i64 m.tags.next, .int .i64 m.tags.round, .slice O no g, .int .i64 m.space] 34)) w.heap.size 34 [.slice A nb c, .slice B n d, .slice L nl e, .int .i64 m.cache.hand, .int .i64 m.tags.count, .int .i64 m.tags.next, .int .i64 m.tags.round, .slice O no g, .int .i64 m.space]) := zq (Blk.new w _ _)
    have E0 : Hid (Ex w (w.alloc (.cells #[.slice A nb c, .slice B n d, .slice L nl e, .int .i64 m.cache.hand, .int .i64 m.tags.count, .int .i64 m.tags.next, .int .i64 m.tags.round, .slice O no g, .int .i64 m.space] 34))) := zq ((Ex.refl w).alloc _)
    refine (C1.out _ (HB.out.ex E0.out) (HF.out.ex E0.out) (HV.out.ex E0.out)).mono ?_
    rintro r w1 ⟨rfl, he1⟩
    have E1 := zq (E0.out.trans he1)
    have K1 := zq (K0.out.ex he1)
    clear he1 E0 K0
    obtain ⟨q0, q1, q2, q3, q4, q5, q6, q7, q8⟩ := K1.out.c9
    have jM := K1.out.lt
    go_wp2
    go_ret
    exact ⟨rfl, E1.out⟩
  rw [h1] at C1
  cases h2 : cacheV m.cache
  · rw [machV_no (fun h => by have := h.1.2.1; rw [h2] at this; cases this)]
    rw [h2] at C2
    generalize m.table.frames.length = n at C1 ⊢
    generalize m.table.buckets.length = nb at C1 ⊢
    generalize m.cache.lines.length = nl at C2 ⊢
    generalize m.tags.owns.length = no at C3 C4 ⊢
    go_enter Tryz.func15, Tryz.ntmps15
    go_wp2_with fail
    have K0 : Hid (Blk (w.alloc (.cells #[.slice A nb c, .slice B n d, .slice L nl e, .int .i64 m.cache.hand, .int .i64 m.tags.count, .int .i64 m.tags.next, .int .i64 m.tags.round, .slice O no g, .int .i64 m.space] 34)) w.heap.size 34 [.slice A nb c, .slice B n d, .slice L nl e, .int .i64 m.cache.hand, .int .i64 m.tags.count, .int .i64 m.tags.next, .int .i64 m.tags.round, .slice O no g, .int .i64 m.space]) := zq (Blk.new w _ _)
    have E0 : Hid (Ex w (w.alloc (.cells #[.slice A nb c, .slice B n d, .slice L nl e, .int .i64 m.cache.hand, .int .i64 m.tags.count, .int .i64 m.tags.next, .int .i64 m.tags.round, .slice O no g, .int .i64 m.space] 34))) := zq ((Ex.refl w).alloc _)
    refine (C1.out _ (HB.out.ex E0.out) (HF.out.ex E0.out) (HV.out.ex E0.out)).mono ?_
    rintro r w1 ⟨rfl, he1⟩
    have E1 := zq (E0.out.trans he1)
    have K1 := zq (K0.out.ex he1)
    clear he1 E0 K0
    obtain ⟨q0, q1, q2, q3, q4, q5, q6, q7, q8⟩ := K1.out.c9
    have jM := K1.out.lt
    go_wp2_with fail
    clear q0 q1 q2 q3 q4 q5 q6 q7 q8 jM
    refine (C2.out _ (HL.out.ex E1.out)).mono ?_
    rintro r w2 ⟨rfl, he2⟩
    have E2 := zq (E1.out.trans he2)
    have K2 := zq (K1.out.ex he2)
    clear he2 E1 K1
    obtain ⟨q0, q1, q2, q3, q4, q5, q6, q7, q8⟩ := K2.out.c9
    have jM := K2.out.lt
    go_wp2
    go_ret
    exact ⟨rfl, E2.out⟩
  rw [h2] at C2
  cases h3 : tagsV m.tags
  · rw [machV_no (fun h => by have := h.1.2.2.1; rw [h3] at this; cases this)]
    rw [h3] at C3
    generalize m.table.frames.length = n at C1 ⊢
    generalize m.table.buckets.length = nb at C1 ⊢
    generalize m.cache.lines.length = nl at C2 ⊢
    generalize m.tags.owns.length = no at C3 C4 ⊢
    go_enter Tryz.func15, Tryz.ntmps15
    go_wp2_with fail
    have K0 : Hid (Blk (w.alloc (.cells #[.slice A nb c, .slice B n d, .slice L nl e, .int .i64 m.cache.hand, .int .i64 m.tags.count, .int .i64 m.tags.next, .int .i64 m.tags.round, .slice O no g, .int .i64 m.space] 34)) w.heap.size 34 [.slice A nb c, .slice B n d, .slice L nl e, .int .i64 m.cache.hand, .int .i64 m.tags.count, .int .i64 m.tags.next, .int .i64 m.tags.round, .slice O no g, .int .i64 m.space]) := zq (Blk.new w _ _)
    have E0 : Hid (Ex w (w.alloc (.cells #[.slice A nb c, .slice B n d, .slice L nl e, .int .i64 m.cache.hand, .int .i64 m.tags.count, .int .i64 m.tags.next, .int .i64 m.tags.round, .slice O no g, .int .i64 m.space] 34))) := zq ((Ex.refl w).alloc _)
    refine (C1.out _ (HB.out.ex E0.out) (HF.out.ex E0.out) (HV.out.ex E0.out)).mono ?_
    rintro r w1 ⟨rfl, he1⟩
    have E1 := zq (E0.out.trans he1)
    have K1 := zq (K0.out.ex he1)
    clear he1 E0 K0
    obtain ⟨q0, q1, q2, q3, q4, q5, q6, q7, q8⟩ := K1.out.c9
    have jM := K1.out.lt
    go_wp2_with fail
    clear q0 q1 q2 q3 q4 q5 q6 q7 q8 jM
    refine (C2.out _ (HL.out.ex E1.out)).mono ?_
    rintro r w2 ⟨rfl, he2⟩
    have E2 := zq (E1.out.trans he2)
    have K2 := zq (K1.out.ex he2)
    clear he2 E1 K1
    obtain ⟨q0, q1, q2, q3, q4, q5, q6, q7, q8⟩ := K2.out.c9
    have jM := K2.out.lt
    go_wp2_with fail
    clear q0 q1 q2 q3 q4 q5 q6 q7 q8 jM
    refine (C3.out _ (HO.out.ex E2.out)).mono ?_
    rintro r w3 ⟨rfl, he3⟩
    have E3 := zq (E2.out.trans he3)
    have K3 := zq (K2.out.ex he3)
    clear he3 E2 K2
    obtain ⟨q0, q1, q2, q3, q4, q5, q6, q7, q8⟩ := K3.out.c9
    have jM := K3.out.lt
    go_wp2
    go_ret
    exact ⟨rfl, E3.out⟩
  rw [h3] at C3
  by_cases h4 : ownPlace m.tags.owns m.space < 0
  · rw [machV_no (fun h => by have := h.1.2.2.2; omega)]
    generalize ownPlace m.tags.owns m.space = op at h4 C4
    generalize m.table.frames.length = n at C1 ⊢
    generalize m.table.buckets.length = nb at C1 ⊢
    generalize m.cache.lines.length = nl at C2 ⊢
    generalize m.tags.owns.length = no at C3 C4 ⊢
    go_enter Tryz.func15, Tryz.ntmps15
    go_wp2_with fail
    have K0 : Hid (Blk (w.alloc (.cells #[.slice A nb c, .slice B n d, .slice L nl e, .int .i64 m.cache.hand, .int .i64 m.tags.count, .int .i64 m.tags.next, .int .i64 m.tags.round, .slice O no g, .int .i64 m.space] 34)) w.heap.size 34 [.slice A nb c, .slice B n d, .slice L nl e, .int .i64 m.cache.hand, .int .i64 m.tags.count, .int .i64 m.tags.next, .int .i64 m.tags.round, .slice O no g, .int .i64 m.space]) := zq (Blk.new w _ _)
    have E0 : Hid (Ex w (w.alloc (.cells #[.slice A nb c, .slice B n d, .slice L nl e, .int .i64 m.cache.hand, .int .i64 m.tags.count, .int .i64 m.tags.next, .int .i64 m.tags.round, .slice O no g, .int .i64 m.space] 34))) := zq ((Ex.refl w).alloc _)
    refine (C1.out _ (HB.out.ex E0.out) (HF.out.ex E0.out) (HV.out.ex E0.out)).mono ?_
    rintro r w1 ⟨rfl, he1⟩
    have E1 := zq (E0.out.trans he1)
    have K1 := zq (K0.out.ex he1)
    clear he1 E0 K0
    obtain ⟨q0, q1, q2, q3, q4, q5, q6, q7, q8⟩ := K1.out.c9
    have jM := K1.out.lt
    go_wp2_with fail
    clear q0 q1 q2 q3 q4 q5 q6 q7 q8 jM
    refine (C2.out _ (HL.out.ex E1.out)).mono ?_
    rintro r w2 ⟨rfl, he2⟩
    have E2 := zq (E1.out.trans he2)
    have K2 := zq (K1.out.ex he2)
    clear he2 E1 K1
    obtain ⟨q0, q1, q2, q3, q4, q5, q6, q7, q8⟩ := K2.out.c9
    have jM := K2.out.lt
    go_wp2_with fail
    clear q0 q1 q2 q3 q4 q5 q6 q7 q8 jM
    refine (C3.out _ (HO.out.ex E2.out)).mono ?_
    rintro r w3 ⟨rfl, he3⟩
    have E3 := zq (E2.out.trans he3)
    have K3 := zq (K2.out.ex he3)
    clear he3 E2 K2
    obtain ⟨q0, q1, q2, q3, q4, q5, q6, q7, q8⟩ := K3.out.c9
    have jM := K3.out.lt
    go_wp2_with fail
    clear q0 q1 q2 q3 q4 q5 q6 q7 q8 jM
    refine (C4.out _ (HO.out.ex E3.out)).mono ?_
    rintro r w4 ⟨rfl, he4⟩
    have E4 := zq (E3.out.trans he4)
    have K4 := zq (K3.out.ex he4)
    clear he4 E3 K3
    obtain ⟨q0, q1, q2, q3, q4, q5, q6, q7, q8⟩ := K4.out.c9
    have jM := K4.out.lt
    go_wp2
    go_ret
    exact ⟨rfl, E4.out⟩
  have HNO : Hid (∀ w', Ex w w' → ¬ MachOk m → (Ending.returned (.bool false) = .returned (.bool (machV m)) ∧ Ex w w')) := zq (fun w' h1 h2 => ⟨ret_bool (machV_no h2).symm, h1⟩)
  have HOK : Hid (MachHead m) := zq ⟨tableV_iff.1 h1, h2, h3, by omega⟩
  have CT := zq (fun xt w' (h : Rd w' O m.tags.owns) => spaceOfI_c m.tags xt O g w' h hf.o hc.o)
  have CF := zq (fun kk w' (h : Rd w' B m.table.frames) => findI_c m.table A c B d kk w' h hf.f)
  have CK := zq (fun s xp w' => keyForI_c s xp w')
  have CEK : Hid (∀ (args : Array Value) (w : World), (callFunc 30 args).run Tryz.prog w = .ok (.enter 30 args) w) := zq (enters Tryz.func30 (by kernel_rfl) (by kernel_rfl))
  have CEF : Hid (∀ (args : Array Value) (w : World), (callFunc 29 args).run Tryz.prog w = .ok (.enter 29 args) w) := zq (enters Tryz.func29 (by kernel_rfl) (by kernel_rfl))
  generalize ownPlace m.tags.owns m.space = op at h4 C4
  obtain ⟨n, en⟩ : ∃ n, n = m.table.frames.length := ⟨_, rfl⟩
  obtain ⟨nl, el⟩ : ∃ n, n = m.cache.lines.length := ⟨_, rfl⟩
  have HN := zq en
  have HNL := zq el
  have hfl : nl ≤ 1048576 := by rw [el]; exact hf.l
  have hfn : n ≤ 1048576 := by rw [en]; exact hf.f
  rw [← en] at C1 CF ⊢
  rw [← el] at C2 ⊢
  generalize m.table.buckets.length = nb at C1 CF ⊢
  generalize m.tags.owns.length = no at C3 C4 CT ⊢
  clear en el hf hc h1 h2 h3
  go_enter Tryz.func15, Tryz.ntmps15
  go_wp2_with fail
  have K0 : Hid (Blk (w.alloc (.cells #[.slice A nb c, .slice B n d, .slice L nl e, .int .i64 m.cache.hand, .int .i64 m.tags.count, .int .i64 m.tags.next, .int .i64 m.tags.round, .slice O no g, .int .i64 m.space] 34)) w.heap.size 34 [.slice A nb c, .slice B n d, .slice L nl e, .int .i64 m.cache.hand, .int .i64 m.tags.count, .int .i64 m.tags.next, .int .i64 m.tags.round, .slice O no g, .int .i64 m.space]) := zq (Blk.new w _ _)
  have E0 : Hid (Ex w (w.alloc (.cells #[.slice A nb c, .slice B n d, .slice L nl e, .int .i64 m.cache.hand, .int .i64 m.tags.count, .int .i64 m.tags.next, .int .i64 m.tags.round, .slice O no g, .int .i64 m.space] 34))) := zq ((Ex.refl w).alloc _)
  refine (C1.out _ (HB.out.ex E0.out) (HF.out.ex E0.out) (HV.out.ex E0.out)).mono ?_
  rintro r w1 ⟨rfl, he1⟩
  have E1 := zq (E0.out.trans he1)
  have K1 := zq (K0.out.ex he1)
  clear he1 E0 K0
  obtain ⟨q0, q1, q2, q3, q4, q5, q6, q7, q8⟩ := K1.out.c9
  have jM := K1.out.lt
  go_wp2_with fail
  clear q0 q1 q2 q3 q4 q5 q6 q7 q8 jM
  refine (C2.out _ (HL.out.ex E1.out)).mono ?_
  rintro r w2 ⟨rfl, he2⟩
  have E2 := zq (E1.out.trans he2)
  have K2 := zq (K1.out.ex he2)
  clear he2 E1 K1
  obtain ⟨q0, q1, q2, q3, q4, q5, q6, q7, q8⟩ := K2.out.c9
  have jM := K2.out.lt
  go_wp2_with fail
  clear q0 q1 q2 q3 q4 q5 q6 q7 q8 jM
  refine (C3.out _ (HO.out.ex E2.out)).mono ?_
  rintro r w3 ⟨rfl, he3⟩
  have E3 := zq (E2.out.trans he3)
  have K3 := zq (K2.out.ex he3)
  clear he3 E2 K2
  obtain ⟨q0, q1, q2, q3, q4, q5, q6, q7, q8⟩ := K3.out.c9
  have jM := K3.out.lt
  go_wp2_with fail
  clear q0 q1 q2 q3 q4 q5 q6 q7 q8 jM
  refine (C4.out _ (HO.out.ex E3.out)).mono ?_
  rintro r w4 ⟨rfl, he4⟩
  have E4 := zq (E3.out.trans he4)
  have K4 := zq (K3.out.ex he4)
  clear he4 E3 K3
  obtain ⟨q0, q1, q2, q3, q4, q5, q6, q7, q8⟩ := K4.out.c9
  have jM := K4.out.lt
  go_wp2
  clear q0 q1 q2 q3 q4 q5 q6 q7 q8 jM C1 C2 C3 C4 HV
  obtain ⟨gm, hgm⟩ : ∃ gm : Nat, gm = w.heap.size := ⟨_, rfl⟩
  rw [← hgm] at K4 ⊢
  clear hgm
  go_loopw [40] (fun i wr => ∃ k : Nat, k ≤ n ∧ i = .int .i64 k ∧ Ex w4 wr ∧ ∀ (j : Nat) (h : FrameD), j < k → m.table.frames[j]? = some h → FrameFits h) (fun i _ => n - (intOf i).toNat)
  case atStart => exact ⟨0, Nat.zero_le _, rfl, Ex.refl _, fun j h hj => by omega⟩
  case round =>
    obtain ⟨k, hk, rfl, hq, hall⟩ := hrel
    have HQ := zq (E4.out.trans hq)
    have HQ4 := zq hq
    have HALL := zq hall
    have KQ := zq (K4.out.ex hq)
    clear hq hall
    obtain ⟨q0, q1, q2, q3, q4, q5, q6, q7, q8⟩ := KQ.out.c9
    have jM := KQ.out.lt
    by_cases hlt : k < n
    · obtain ⟨b2, o2, f, rfl, hb2, hfi, k0, k1, k2, k3, k4⟩ := (HF.out.ex HQ.out).frame (k := k) (by have := HN.out; omega)
      have HFI := zq hfi
      clear hfi
      have HNEXT : Hid (FrameFits f → ∀ (j : Nat) (h : FrameD), j < k + 1 → m.table.frames[j]? = some h → FrameFits h) := zq (fun hff j h hj hh => by
        by_cases e : j = k
        · subst e
          have := HFI.out
          rw [this] at hh
          injection hh with hh
          rw [← hh]; exact hff
        · exact HALL.out j h (by omega) hh)
      cases hu : f.used
      · rw [hu] at k0
        have HFF := zq (HNEXT.out (fun h => by rw [hu] at h; cases h.1))
        clear hu
        go_wp2
        go_roundw
        case rel => exact ⟨k + 1, by omega, by go_num, HQ4.out.alloc _, HFF.out⟩
        case measure => simp [intOf]; omega
      rw [hu] at k0
      by_cases hp : 128 ≤ f.key.page
      · by_cases hs : f.key.space = 0
        · have HFF := zq (HNEXT.out (fun h => h.2.2 hs))
          rw [hs] at k1
          clear hu
          go_wp2
          go_roundw
          case rel => exact ⟨k + 1, by omega, by go_num, HQ4.out.alloc _, HFF.out⟩
          case measure => simp [intOf]; omega
        · have HBAD : Hid (¬ MachOk m) := zq (fun h => h.2.1 k f HFI.out ⟨hu, hp, hs⟩)
          have hb1 : (f.key.space != 0) = true := by simpa using hs
          have hb2' : (!f.key.space == 0) = true := by simpa using hs
          clear hu
          go_wp2
          go_ret
          exact HNO.out _ (HQ.out.alloc _) HBAD.out
      · have HFF := zq (HNEXT.out (fun h => hp h.2.1))
        clear hu
        go_wp2
        go_roundw
        case rel => exact ⟨k + 1, by omega, by go_num, HQ4.out.alloc _, HFF.out⟩
        case measure => simp [intOf]; omega
    · obtain rfl : k = n := by omega
      have HFA : Hid (∀ (i : Nat) (f : FrameD), m.table.frames[i]? = some f → FrameFits f) := zq (fun i f h => HALL.out i f (by have := getElem?_lt h; have := HN.out; omega) h)
      go_wp2
      clear q0 q1 q2 q3 q4 q5 q6 q7 q8 jM HALL HQ KQ
      go_loopw [63] (fun i wq => ∃ q : Nat, q ≤ nl ∧ i = .int .i64 q ∧ Ex w4 wq ∧ ∀ (j : Nat) (h : LineD), j < q → m.cache.lines[j]? = some h → h.valid = true → LineFits m h) (fun i _ => nl - (intOf i).toNat)
      case atStart => exact ⟨0, Nat.zero_le _, rfl, HQ4.out, fun j h hj => by omega⟩
      case round =>
        clear HQ4
        obtain ⟨q, hk, rfl, hq, hall⟩ := hrel
        have HQ := zq (E4.out.trans hq)
        have HQ4 := zq hq
        have HALL := zq hall
        have KQ := zq (K4.out.ex hq)
        clear hq hall
        by_cases hlt : q < nl
        · obtain ⟨b3, o3, x, rfl, hb3, hxi, k0, k1, k2, k3, k4, k5⟩ := (HL.out.ex HQ.out).line (k := q) (by have := HNL.out; omega)
          obtain ⟨xv, xt, xp, xf, xr, xw⟩ := x
          dsimp only at k0 k1 k2 k3 k4 k5
          have HXI := zq hxi
          clear hxi
          have HNEXT : Hid ((xv = true → LineFits m ⟨xv, xt, xp, xf, xr, xw⟩) → ∀ (j : Nat) (h : LineD), j < q + 1 → m.cache.lines[j]? = some h → h.valid = true → LineFits m h) := zq (fun hff j h hj hh hv => by
            by_cases e : j = q
            · subst e
              have := HXI.out
              rw [this] at hh
              injection hh with hh
              subst hh; exact hff hv
            · exact HALL.out j h (by omega) hh hv)
          obtain ⟨q0, q1, q2, q3, q4, q5, q6, q7, q8⟩ := KQ.out.c9
          have jM := KQ.out.lt
          cases xv
          · have HFF := zq (HNEXT.out (fun h => by cases h))
            go_wp2
            go_roundw
            case rel => exact ⟨q + 1, by omega, by go_num, HQ4.out.alloc _, HFF.out⟩
            case measure => simp [intOf]; omega
          by_cases htg : xt = -1
          · by_cases hpg : 128 ≤ xp
            · have HT1 : Hid (xt = -1 ↔ 128 ≤ xp) := zq (by simp [htg, hpg])
              have HT2 : Hid (xt ≠ -1 → (spaceOf m.tags xt).2 = true) := zq (fun h => absurd htg h)
              have HT3 : Hid (xw = true → xt = -1) := zq (fun _ => htg)
              have hq : lineAt m ⟨true, xt, xp, xf, xr, xw⟩ = findF m.table (keyFor 0 xp) := by unfold lineAt lineSpace; rw [if_pos htg]
              subst htg
              cases xw
              · skip
                have CK0 := zq (fun w' => CK.out 0 xp w')
                generalize keyFor 0 xp = kk at hq CK0
                have CF0 := zq (fun w' h => CF.out kk w' h)
                rcases findF_range (t := m.table) kk with hm | ⟨i, f, hm, hfi⟩
                · have HBAD : Hid (¬ MachOk m) := zq (fun h => by obtain ⟨i, f, h1, _⟩ := (h.2.2 q _ HXI.out rfl).2.2.1; rw [hq, hm] at h1; omega)
                  rw [hm] at CF0
                  clear hq hm
                  go_wp2_with fail
                  obtain ⟨w0, hw0⟩ : ∃ w0 : World, w0 = wr.alloc (.cells #[.bool true, .int .i64 (-1), .int .i64 xp, .int .i64 xf, .int .i64 xr, .bool false] 64) := ⟨_, rfl⟩
                  obtain ⟨gl, hgl⟩ : ∃ gl : Nat, gl = wr.heap.size := ⟨_, rfl⟩
                  have K0 : Hid (Blk w0 gm 34 [.slice A nb c, .slice B k d, .slice (some ⟨b3, o3, none⟩) nl e, .int .i64 m.cache.hand, .int .i64 m.tags.count, .int .i64 m.tags.next, .int .i64 m.tags.round, .slice O no g, .int .i64 m.space]) := zq (by rw [hw0]; exact KQ.out.alloc _)
                  have K1 : Hid (Blk w0 gl 64 [.bool true, .int .i64 (-1), .int .i64 xp, .int .i64 xf, .int .i64 xr, .bool false]) := zq (by rw [hw0, hgl]; exact Blk.new wr _ _)
                  have EW : Hid (Ex wr w0) := zq (by rw [hw0]; exact (Ex.refl wr).alloc _)
                  rw [← hw0]
                  rw [← hgl]
                  clear hw0 hgl
                  clear q0 q1 q2 q3 q4 q5 q6 q7 q8 jM k0 k1 k2 k3 k4 k5
                  have FK9 : Hid (∀ w', Ex w0 w' → (w'.cell? ⟨gm, 0, none⟩ = some (.slice A nb c) ∧ w'.cell? ⟨gm, 1, none⟩ = some (.slice B k d) ∧ w'.cell? ⟨gl, 2, none⟩ = some (.int .i64 xp))) := zq (fun w' h => ⟨(K0.out.ex h).c9.1, (K0.out.ex h).c9.2.1, (K1.out.ex h).c6.2.2.1⟩)
                  refine wp_region_held_drew (S := (fun w' => (w'.cell? ⟨gm, 0, none⟩ = some (.slice A nb c) ∧ w'.cell? ⟨gm, 1, none⟩ = some (.slice B k d) ∧ w'.cell? ⟨gl, 2, none⟩ = some (.int .i64 xp)))) (by kernel_rfl) ?r0_hS0 (fun hHeld => ?_)
                  case r0_hS0 => exact FK9.out _ (Ex.refl _).drew
                  refine tk 0 ?_; refine tk 1 ?_; refine tk 2 ?_; refine tk 3 ?_; refine tk 4 ?_
                  refine wpAnyH_ready (rs := [5]) (by kernel_rfl) (by simp) ?_
                  refine AllReadyH.cons (o := ?r0_o5) ?r0_ho5 (fun K hK => ?_) AllReadyH.nil
                  case r0_ho5 => (conv => lhs; whnf; arg 1; whnf)
                  refine step_call_gu rfl CEK.out _ _ rfl #[.int .i64 0, .int .i64 xp] rfl (CK0.out _) ?_; rintro r wa ⟨rfl, hwa⟩; refine ⟨_, rfl, ?_⟩; have hxa := Ex.trans (Ex.refl _).drew hwa
                  refine hK.out _ _ ?r0_hS5 (fun hHeld5 => ?_)
                  case r0_hS5 => exact FK9.out _ hxa
                  clear hK K hHeld
                  try simp only [Act.put, List.setIfInBounds_toArray, List.set_cons_zero, List.set_cons_succ]
                  refine wpAnyH_ready (rs := [6]) (by kernel_rfl) (by simp) ?_
                  refine AllReadyH.cons (o := ?r0_o6) ?r0_ho6 (fun K hK => ?_) AllReadyH.nil
                  case r0_ho6 => (conv => lhs; whnf; arg 1; whnf)
                  refine step_call_gu rfl CEF.out _ _ rfl #[.agg #[.slice A nb c, .slice B k d], .agg #[.int .i64 kk.space, .int .i64 kk.page]] rfl (CF0.out _ (HF.out.ex ((HQ.out.trans EW.out).trans hxa))) ?_; rintro r w3 ⟨rfl, he⟩; refine ⟨_, rfl, ?_⟩; have hx3 := Ex.trans hxa he
                  refine hK.out _ _ ?r0_hS6 (fun hHeld6 => ?_)
                  case r0_hS6 => exact FK9.out _ hx3
                  clear hK K hHeld5
                  try simp only [Act.put, List.setIfInBounds_toArray, List.set_cons_zero, List.set_cons_succ]
                  refine tk 7 ?_
                  refine wpAnyH_done (by kernel_rfl) ?_ _
                  have HX3 := zq hx3
                  clear hx3 hxa he hwa
                  go_wp2_with fail
                  have FK10 : Hid (∀ w', Ex w3 w' → True) := zq (fun w' h => trivial)
                  refine wp_region_held_drew (S := (fun w' => True)) (by kernel_rfl) ?r1_hS0 (fun hHeld => ?_)
                  case r1_hS0 => exact FK10.out _ (Ex.refl _).drew
                  refine tk 0 ?_; refine tk 1 ?_; refine tk 2 ?_; refine tn 3 ?_; refine tn 4 ?_; refine tn 5 ?_; refine tn 6 ?_; refine tk 7 ?_; refine tk 8 ?_; refine tn 9 ?_; refine tn 10 ?_; refine tn 11 ?_; refine tn 12 ?_; refine tn 13 ?_
                  refine tn 14 ?_; refine tn 15 ?_; refine tn 16 ?_; refine tn 17 ?_; refine tn 18 ?_; refine tk 19 ?_
                  refine wpAnyH_done (by kernel_rfl) ?_ _
                  go_wp2
                  go_ret
                  exact HNO.out _ ((HQ.out.trans EW.out).trans HX3.out).drew HBAD.out
                rw [hm] at CF0 hq
                have hin : i < k := by have := getElem?_lt hfi; have := HN.out; omega
                obtain ⟨b2, o2, f', rfl, hb2, hfi', z0, z1, z2, z3, z4⟩ := (HF.out.ex HQ.out).frame (k := i) (getElem?_lt hfi)
                have e : f = f' := by rw [hfi] at hfi'; injection hfi'
                subst e
                have HB2 := zq hb2
                have Z3 := zq z3
                have HIFF : Hid (LineFits m ⟨true, (-1), xp, xf, xr, false⟩ ↔ (i : Int) = xf ∧ f.rights = xr) := zq (by
                  constructor
                  · rintro ⟨_, _, ⟨i', f', h1, h2, h3, h4⟩, h5⟩
                    have e : i' = i := by rw [hq] at h1; omega
                    subst e
                    rw [hfi] at h3
                    injection h3 with h3
                    rw [h3]
                    exact ⟨h2, h4⟩
                  · rintro ⟨h1, h2⟩
                    exact ⟨HT1.out, HT2.out, ⟨i, f, hq, h1, hfi, h2⟩, HT3.out⟩)
                clear hb2 z0 z1 z2 z3 z4 hq hm hfi hfi'
                have hi0 : ¬ (i : Int) < 0 := by omega
                by_cases hfr : (i : Int) = xf
                rotate_left
                · have HBAD : Hid (¬ MachOk m) := zq (fun h => hfr (HIFF.out.1 (h.2.2 q _ HXI.out rfl)).1)
                  have hbb : ((i : Int) == xf) = false := by simpa using hfr
                  have hbn : ((i : Int) != xf) = true := by simpa using hfr
                  have hbm : (!((i : Int) == xf)) = true := by simpa using hfr
                  go_wp2_with fail
                  obtain ⟨w0, hw0⟩ : ∃ w0 : World, w0 = wr.alloc (.cells #[.bool true, .int .i64 (-1), .int .i64 xp, .int .i64 xf, .int .i64 xr, .bool false] 64) := ⟨_, rfl⟩
                  obtain ⟨gl, hgl⟩ : ∃ gl : Nat, gl = wr.heap.size := ⟨_, rfl⟩
                  have K0 : Hid (Blk w0 gm 34 [.slice A nb c, .slice (some ⟨b2, o2, none⟩) k d, .slice (some ⟨b3, o3, none⟩) nl e, .int .i64 m.cache.hand, .int .i64 m.tags.count, .int .i64 m.tags.next, .int .i64 m.tags.round, .slice O no g, .int .i64 m.space]) := zq (by rw [hw0]; exact KQ.out.alloc _)
                  have K1 : Hid (Blk w0 gl 64 [.bool true, .int .i64 (-1), .int .i64 xp, .int .i64 xf, .int .i64 xr, .bool false]) := zq (by rw [hw0, hgl]; exact Blk.new wr _ _)
                  have EW : Hid (Ex wr w0) := zq (by rw [hw0]; exact (Ex.refl wr).alloc _)
                  rw [← hw0]
                  rw [← hgl]
                  clear hw0 hgl
                  clear q0 q1 q2 q3 q4 q5 q6 q7 q8 jM k0 k1 k2 k3 k4 k5
                  have FK9 : Hid (∀ w', Ex w0 w' → (w'.cell? ⟨gm, 0, none⟩ = some (.slice A nb c) ∧ w'.cell? ⟨gm, 1, none⟩ = some (.slice (some ⟨b2, o2, none⟩) k d) ∧ w'.cell? ⟨gl, 2, none⟩ = some (.int .i64 xp))) := zq (fun w' h => ⟨(K0.out.ex h).c9.1, (K0.out.ex h).c9.2.1, (K1.out.ex h).c6.2.2.1⟩)
                  refine wp_region_held_drew (S := (fun w' => (w'.cell? ⟨gm, 0, none⟩ = some (.slice A nb c) ∧ w'.cell? ⟨gm, 1, none⟩ = some (.slice (some ⟨b2, o2, none⟩) k d) ∧ w'.cell? ⟨gl, 2, none⟩ = some (.int .i64 xp)))) (by kernel_rfl) ?r2_hS0 (fun hHeld => ?_)
                  case r2_hS0 => exact FK9.out _ (Ex.refl _).drew
                  refine tk 0 ?_; refine tk 1 ?_; refine tk 2 ?_; refine tk 3 ?_; refine tk 4 ?_
                  refine wpAnyH_ready (rs := [5]) (by kernel_rfl) (by simp) ?_
                  refine AllReadyH.cons (o := ?r2_o5) ?r2_ho5 (fun K hK => ?_) AllReadyH.nil
                  case r2_ho5 => (conv => lhs; whnf; arg 1; whnf)
                  refine step_call_gu rfl CEK.out _ _ rfl #[.int .i64 0, .int .i64 xp] rfl (CK0.out _) ?_; rintro r wa ⟨rfl, hwa⟩; refine ⟨_, rfl, ?_⟩; have hxa := Ex.trans (Ex.refl _).drew hwa
                  refine hK.out _ _ ?r2_hS5 (fun hHeld5 => ?_)
                  case r2_hS5 => exact FK9.out _ hxa
                  clear hK K hHeld
                  try simp only [Act.put, List.setIfInBounds_toArray, List.set_cons_zero, List.set_cons_succ]
                  refine wpAnyH_ready (rs := [6]) (by kernel_rfl) (by simp) ?_
                  refine AllReadyH.cons (o := ?r2_o6) ?r2_ho6 (fun K hK => ?_) AllReadyH.nil
                  case r2_ho6 => (conv => lhs; whnf; arg 1; whnf)
                  refine step_call_gu rfl CEF.out _ _ rfl #[.agg #[.slice A nb c, .slice (some ⟨b2, o2, none⟩) k d], .agg #[.int .i64 kk.space, .int .i64 kk.page]] rfl (CF0.out _ (HF.out.ex ((HQ.out.trans EW.out).trans hxa))) ?_; rintro r w3 ⟨rfl, he⟩; refine ⟨_, rfl, ?_⟩; have hx3 := Ex.trans hxa he
                  refine hK.out _ _ ?r2_hS6 (fun hHeld6 => ?_)
                  case r2_hS6 => exact FK9.out _ hx3
                  clear hK K hHeld5
                  try simp only [Act.put, List.setIfInBounds_toArray, List.set_cons_zero, List.set_cons_succ]
                  refine tk 7 ?_
                  refine wpAnyH_done (by kernel_rfl) ?_ _
                  have HX3 := zq hx3
                  clear hx3 hxa he hwa
                  go_wp2_with fail
                  have FK10 : Hid (∀ w', Ex w3 w' → (w'.cell? ⟨gl, 3, none⟩ = some (.int .i64 xf))) := zq (fun w' h => (K1.out.ex (HX3.out.trans h)).c6.2.2.2.1)
                  refine wp_region_held_drew (S := (fun w' => (w'.cell? ⟨gl, 3, none⟩ = some (.int .i64 xf)))) (by kernel_rfl) ?r3_hS0 (fun hHeld => ?_)
                  case r3_hS0 => exact FK10.out _ (Ex.refl _).drew
                  refine tk 0 ?_; refine tk 1 ?_; refine tk 2 ?_; refine tk 3 ?_; refine tk 4 ?_; refine tk 5 ?_; refine tk 6 ?_; refine tk 7 ?_; refine tk 8 ?_; refine tn 9 ?_; refine tn 10 ?_; refine tn 11 ?_; refine tn 12 ?_; refine tn 13 ?_
                  refine tn 14 ?_; refine tn 15 ?_; refine tn 16 ?_; refine tn 17 ?_; refine tn 18 ?_; refine tk 19 ?_
                  refine wpAnyH_done (by kernel_rfl) ?_ _
                  go_wp2
                  go_ret
                  exact HNO.out _ ((HQ.out.trans EW.out).trans HX3.out).drew HBAD.out
                by_cases hr : f.rights = xr
                rotate_left
                · have HBAD : Hid (¬ MachOk m) := zq (fun h => hr (HIFF.out.1 (h.2.2 q _ HXI.out rfl)).2)
                  have hbb : (f.rights == xr) = false := by simpa using hr
                  have hbn : (f.rights != xr) = true := by simpa using hr
                  have hbm : (!(f.rights == xr)) = true := by simpa using hr
                  clear HIFF
                  subst hfr
                  go_wp2_with fail
                  obtain ⟨w0, hw0⟩ : ∃ w0 : World, w0 = wr.alloc (.cells #[.bool true, .int .i64 (-1), .int .i64 xp, .int .i64 (i : Int), .int .i64 xr, .bool false] 64) := ⟨_, rfl⟩
                  obtain ⟨gl, hgl⟩ : ∃ gl : Nat, gl = wr.heap.size := ⟨_, rfl⟩
                  have K0 : Hid (Blk w0 gm 34 [.slice A nb c, .slice (some ⟨b2, o2, none⟩) k d, .slice (some ⟨b3, o3, none⟩) nl e, .int .i64 m.cache.hand, .int .i64 m.tags.count, .int .i64 m.tags.next, .int .i64 m.tags.round, .slice O no g, .int .i64 m.space]) := zq (by rw [hw0]; exact KQ.out.alloc _)
                  have K1 : Hid (Blk w0 gl 64 [.bool true, .int .i64 (-1), .int .i64 xp, .int .i64 (i : Int), .int .i64 xr, .bool false]) := zq (by rw [hw0, hgl]; exact Blk.new wr _ _)
                  have EW : Hid (Ex wr w0) := zq (by rw [hw0]; exact (Ex.refl wr).alloc _)
                  rw [← hw0]
                  rw [← hgl]
                  clear hw0 hgl
                  clear q0 q1 q2 q3 q4 q5 q6 q7 q8 jM k0 k1 k2 k3 k4 k5
                  have FK9 : Hid (∀ w', Ex w0 w' → (w'.cell? ⟨gm, 0, none⟩ = some (.slice A nb c) ∧ w'.cell? ⟨gm, 1, none⟩ = some (.slice (some ⟨b2, o2, none⟩) k d) ∧ w'.cell? ⟨gl, 2, none⟩ = some (.int .i64 xp))) := zq (fun w' h => ⟨(K0.out.ex h).c9.1, (K0.out.ex h).c9.2.1, (K1.out.ex h).c6.2.2.1⟩)
                  refine wp_region_held_drew (S := (fun w' => (w'.cell? ⟨gm, 0, none⟩ = some (.slice A nb c) ∧ w'.cell? ⟨gm, 1, none⟩ = some (.slice (some ⟨b2, o2, none⟩) k d) ∧ w'.cell? ⟨gl, 2, none⟩ = some (.int .i64 xp)))) (by kernel_rfl) ?r4_hS0 (fun hHeld => ?_)
                  case r4_hS0 => exact FK9.out _ (Ex.refl _).drew
                  refine tk 0 ?_; refine tk 1 ?_; refine tk 2 ?_; refine tk 3 ?_; refine tk 4 ?_
                  refine wpAnyH_ready (rs := [5]) (by kernel_rfl) (by simp) ?_
                  refine AllReadyH.cons (o := ?r4_o5) ?r4_ho5 (fun K hK => ?_) AllReadyH.nil
                  case r4_ho5 => (conv => lhs; whnf; arg 1; whnf)
                  refine step_call_gu rfl CEK.out _ _ rfl #[.int .i64 0, .int .i64 xp] rfl (CK0.out _) ?_; rintro r wa ⟨rfl, hwa⟩; refine ⟨_, rfl, ?_⟩; have hxa := Ex.trans (Ex.refl _).drew hwa
                  refine hK.out _ _ ?r4_hS5 (fun hHeld5 => ?_)
                  case r4_hS5 => exact FK9.out _ hxa
                  clear hK K hHeld
                  try simp only [Act.put, List.setIfInBounds_toArray, List.set_cons_zero, List.set_cons_succ]
                  refine wpAnyH_ready (rs := [6]) (by kernel_rfl) (by simp) ?_
                  refine AllReadyH.cons (o := ?r4_o6) ?r4_ho6 (fun K hK => ?_) AllReadyH.nil
                  case r4_ho6 => (conv => lhs; whnf; arg 1; whnf)
                  refine step_call_gu rfl CEF.out _ _ rfl #[.agg #[.slice A nb c, .slice (some ⟨b2, o2, none⟩) k d], .agg #[.int .i64 kk.space, .int .i64 kk.page]] rfl (CF0.out _ (HF.out.ex ((HQ.out.trans EW.out).trans hxa))) ?_; rintro r w3 ⟨rfl, he⟩; refine ⟨_, rfl, ?_⟩; have hx3 := Ex.trans hxa he
                  refine hK.out _ _ ?r4_hS6 (fun hHeld6 => ?_)
                  case r4_hS6 => exact FK9.out _ hx3
                  clear hK K hHeld5
                  try simp only [Act.put, List.setIfInBounds_toArray, List.set_cons_zero, List.set_cons_succ]
                  refine tk 7 ?_
                  refine wpAnyH_done (by kernel_rfl) ?_ _
                  have HX3 := zq hx3
                  clear hx3 hxa he hwa
                  go_wp2_with fail
                  have FK10 : Hid (∀ w', Ex w3 w' → (w'.cell? ⟨gl, 3, none⟩ = some (.int .i64 (i : Int)) ∧ w'.cell? ⟨gl, 4, none⟩ = some (.int .i64 xr) ∧ w'.cell? ⟨gm, 1, none⟩ = some (.slice (some ⟨b2, o2, none⟩) k d) ∧ w'.cell? ⟨b2, o2 + i * 5 + 3, none⟩ = some (.int .i64 f.rights))) := zq (fun w' h => ⟨(K1.out.ex (HX3.out.trans h)).c6.2.2.2.1, (K1.out.ex (HX3.out.trans h)).c6.2.2.2.2.1, (K0.out.ex (HX3.out.trans h)).c9.2.1, (((EW.out.trans HX3.out).trans h).cell HB2.out).trans Z3.out⟩)
                  refine wp_region_held_drew (S := (fun w' => (w'.cell? ⟨gl, 3, none⟩ = some (.int .i64 (i : Int)) ∧ w'.cell? ⟨gl, 4, none⟩ = some (.int .i64 xr) ∧ w'.cell? ⟨gm, 1, none⟩ = some (.slice (some ⟨b2, o2, none⟩) k d) ∧ w'.cell? ⟨b2, o2 + i * 5 + 3, none⟩ = some (.int .i64 f.rights)))) (by kernel_rfl) ?r5_hS0 (fun hHeld => ?_)
                  case r5_hS0 => exact FK10.out _ (Ex.refl _).drew
                  refine tk 0 ?_; refine tk 1 ?_; refine tk 2 ?_; refine tk 3 ?_; refine tk 4 ?_; refine tk 5 ?_; refine tk 6 ?_; refine tk 7 ?_; refine tk 8 ?_; refine tk 9 ?_; refine tk 10 ?_; refine tk 11 ?_; refine tk 12 ?_; refine tk 13 ?_
                  refine tk 14 ?_; refine tk 15 ?_; refine tk 16 ?_; refine tk 17 ?_; refine tk 18 ?_; refine tk 19 ?_
                  refine wpAnyH_done (by kernel_rfl) ?_ _
                  go_wp2
                  go_ret
                  exact HNO.out _ ((HQ.out.trans EW.out).trans HX3.out).drew HBAD.out
                have HFF := zq (HNEXT.out (fun _ => HIFF.out.2 ⟨hfr, hr⟩))
                clear HIFF
                subst hfr
                subst hr
                go_wp2_with fail
                obtain ⟨w0, hw0⟩ : ∃ w0 : World, w0 = wr.alloc (.cells #[.bool true, .int .i64 (-1), .int .i64 xp, .int .i64 (i : Int), .int .i64 f.rights, .bool false] 64) := ⟨_, rfl⟩
                obtain ⟨gl, hgl⟩ : ∃ gl : Nat, gl = wr.heap.size := ⟨_, rfl⟩
                have K0 : Hid (Blk w0 gm 34 [.slice A nb c, .slice (some ⟨b2, o2, none⟩) k d, .slice (some ⟨b3, o3, none⟩) nl e, .int .i64 m.cache.hand, .int .i64 m.tags.count, .int .i64 m.tags.next, .int .i64 m.tags.round, .slice O no g, .int .i64 m.space]) := zq (by rw [hw0]; exact KQ.out.alloc _)
                have K1 : Hid (Blk w0 gl 64 [.bool true, .int .i64 (-1), .int .i64 xp, .int .i64 (i : Int), .int .i64 f.rights, .bool false]) := zq (by rw [hw0, hgl]; exact Blk.new wr _ _)
                have EW : Hid (Ex wr w0) := zq (by rw [hw0]; exact (Ex.refl wr).alloc _)
                rw [← hw0]
                rw [← hgl]
                clear hw0 hgl
                clear q0 q1 q2 q3 q4 q5 q6 q7 q8 jM k0 k1 k2 k3 k4 k5
                have FK9 : Hid (∀ w', Ex w0 w' → (w'.cell? ⟨gm, 0, none⟩ = some (.slice A nb c) ∧ w'.cell? ⟨gm, 1, none⟩ = some (.slice (some ⟨b2, o2, none⟩) k d) ∧ w'.cell? ⟨gl, 2, none⟩ = some (.int .i64 xp))) := zq (fun w' h => ⟨(K0.out.ex h).c9.1, (K0.out.ex h).c9.2.1, (K1.out.ex h).c6.2.2.1⟩)
                refine wp_region_held_drew (S := (fun w' => (w'.cell? ⟨gm, 0, none⟩ = some (.slice A nb c) ∧ w'.cell? ⟨gm, 1, none⟩ = some (.slice (some ⟨b2, o2, none⟩) k d) ∧ w'.cell? ⟨gl, 2, none⟩ = some (.int .i64 xp)))) (by kernel_rfl) ?r6_hS0 (fun hHeld => ?_)
                case r6_hS0 => exact FK9.out _ (Ex.refl _).drew
                refine tk 0 ?_; refine tk 1 ?_; refine tk 2 ?_; refine tk 3 ?_; refine tk 4 ?_
                refine wpAnyH_ready (rs := [5]) (by kernel_rfl) (by simp) ?_
                refine AllReadyH.cons (o := ?r6_o5) ?r6_ho5 (fun K hK => ?_) AllReadyH.nil
                case r6_ho5 => (conv => lhs; whnf; arg 1; whnf)
                refine step_call_gu rfl CEK.out _ _ rfl #[.int .i64 0, .int .i64 xp] rfl (CK0.out _) ?_; rintro r wa ⟨rfl, hwa⟩; refine ⟨_, rfl, ?_⟩; have hxa := Ex.trans (Ex.refl _).drew hwa
                refine hK.out _ _ ?r6_hS5 (fun hHeld5 => ?_)
                case r6_hS5 => exact FK9.out _ hxa
                clear hK K hHeld
                try simp only [Act.put, List.setIfInBounds_toArray, List.set_cons_zero, List.set_cons_succ]
                refine wpAnyH_ready (rs := [6]) (by kernel_rfl) (by simp) ?_
                refine AllReadyH.cons (o := ?r6_o6) ?r6_ho6 (fun K hK => ?_) AllReadyH.nil
                case r6_ho6 => (conv => lhs; whnf; arg 1; whnf)
                refine step_call_gu rfl CEF.out _ _ rfl #[.agg #[.slice A nb c, .slice (some ⟨b2, o2, none⟩) k d], .agg #[.int .i64 kk.space, .int .i64 kk.page]] rfl (CF0.out _ (HF.out.ex ((HQ.out.trans EW.out).trans hxa))) ?_; rintro r w3 ⟨rfl, he⟩; refine ⟨_, rfl, ?_⟩; have hx3 := Ex.trans hxa he
                refine hK.out _ _ ?r6_hS6 (fun hHeld6 => ?_)
                case r6_hS6 => exact FK9.out _ hx3
                clear hK K hHeld5
                try simp only [Act.put, List.setIfInBounds_toArray, List.set_cons_zero, List.set_cons_succ]
                refine tk 7 ?_
                refine wpAnyH_done (by kernel_rfl) ?_ _
                have HX3 := zq hx3
                clear hx3 hxa he hwa
                go_wp2_with fail
                have FK10 : Hid (∀ w', Ex w3 w' → (w'.cell? ⟨gl, 3, none⟩ = some (.int .i64 (i : Int)) ∧ w'.cell? ⟨gl, 4, none⟩ = some (.int .i64 f.rights) ∧ w'.cell? ⟨gm, 1, none⟩ = some (.slice (some ⟨b2, o2, none⟩) k d) ∧ w'.cell? ⟨b2, o2 + i * 5 + 3, none⟩ = some (.int .i64 f.rights))) := zq (fun w' h => ⟨(K1.out.ex (HX3.out.trans h)).c6.2.2.2.1, (K1.out.ex (HX3.out.trans h)).c6.2.2.2.2.1, (K0.out.ex (HX3.out.trans h)).c9.2.1, (((EW.out.trans HX3.out).trans h).cell HB2.out).trans Z3.out⟩)
                refine wp_region_held_drew (S := (fun w' => (w'.cell? ⟨gl, 3, none⟩ = some (.int .i64 (i : Int)) ∧ w'.cell? ⟨gl, 4, none⟩ = some (.int .i64 f.rights) ∧ w'.cell? ⟨gm, 1, none⟩ = some (.slice (some ⟨b2, o2, none⟩) k d) ∧ w'.cell? ⟨b2, o2 + i * 5 + 3, none⟩ = some (.int .i64 f.rights)))) (by kernel_rfl) ?r7_hS0 (fun hHeld => ?_)
                case r7_hS0 => exact FK10.out _ (Ex.refl _).drew
                refine tk 0 ?_; refine tk 1 ?_; refine tk 2 ?_; refine tk 3 ?_; refine tk 4 ?_; refine tk 5 ?_; refine tk 6 ?_; refine tk 7 ?_; refine tk 8 ?_; refine tk 9 ?_; refine tk 10 ?_; refine tk 11 ?_; refine tk 12 ?_; refine tk 13 ?_
                refine tk 14 ?_; refine tk 15 ?_; refine tk 16 ?_; refine tk 17 ?_; refine tk 18 ?_; refine tk 19 ?_
                refine wpAnyH_done (by kernel_rfl) ?_ _
                go_wp2
                go_roundw
                case rel => exact ⟨q + 1, by omega, by go_num, ((HQ4.out.trans EW.out).trans HX3.out).drew, HFF.out⟩
                case measure => simp [intOf]; omega
              · skip
                have CK0 := zq (fun w' => CK.out 0 xp w')
                generalize keyFor 0 xp = kk at hq CK0
                have CF0 := zq (fun w' h => CF.out kk w' h)
                rcases findF_range (t := m.table) kk with hm | ⟨i, f, hm, hfi⟩
                · have HBAD : Hid (¬ MachOk m) := zq (fun h => by obtain ⟨i, f, h1, _⟩ := (h.2.2 q _ HXI.out rfl).2.2.1; rw [hq, hm] at h1; omega)
                  rw [hm] at CF0
                  clear hq hm
                  go_wp2_with fail
                  obtain ⟨w0, hw0⟩ : ∃ w0 : World, w0 = wr.alloc (.cells #[.bool true, .int .i64 (-1), .int .i64 xp, .int .i64 xf, .int .i64 xr, .bool true] 64) := ⟨_, rfl⟩
                  obtain ⟨gl, hgl⟩ : ∃ gl : Nat, gl = wr.heap.size := ⟨_, rfl⟩
                  have K0 : Hid (Blk w0 gm 34 [.slice A nb c, .slice B k d, .slice (some ⟨b3, o3, none⟩) nl e, .int .i64 m.cache.hand, .int .i64 m.tags.count, .int .i64 m.tags.next, .int .i64 m.tags.round, .slice O no g, .int .i64 m.space]) := zq (by rw [hw0]; exact KQ.out.alloc _)
                  have K1 : Hid (Blk w0 gl 64 [.bool true, .int .i64 (-1), .int .i64 xp, .int .i64 xf, .int .i64 xr, .bool true]) := zq (by rw [hw0, hgl]; exact Blk.new wr _ _)
                  have EW : Hid (Ex wr w0) := zq (by rw [hw0]; exact (Ex.refl wr).alloc _)
                  rw [← hw0]
                  rw [← hgl]
                  clear hw0 hgl
                  clear q0 q1 q2 q3 q4 q5 q6 q7 q8 jM k0 k1 k2 k3 k4 k5
                  have FK9 : Hid (∀ w', Ex w0 w' → (w'.cell? ⟨gm, 0, none⟩ = some (.slice A nb c) ∧ w'.cell? ⟨gm, 1, none⟩ = some (.slice B k d) ∧ w'.cell? ⟨gl, 2, none⟩ = some (.int .i64 xp))) := zq (fun w' h => ⟨(K0.out.ex h).c9.1, (K0.out.ex h).c9.2.1, (K1.out.ex h).c6.2.2.1⟩)
                  refine wp_region_held_drew (S := (fun w' => (w'.cell? ⟨gm, 0, none⟩ = some (.slice A nb c) ∧ w'.cell? ⟨gm, 1, none⟩ = some (.slice B k d) ∧ w'.cell? ⟨gl, 2, none⟩ = some (.int .i64 xp)))) (by kernel_rfl) ?r8_hS0 (fun hHeld => ?_)
                  case r8_hS0 => exact FK9.out _ (Ex.refl _).drew
                  refine tk 0 ?_; refine tk 1 ?_; refine tk 2 ?_; refine tk 3 ?_; refine tk 4 ?_
                  refine wpAnyH_ready (rs := [5]) (by kernel_rfl) (by simp) ?_
                  refine AllReadyH.cons (o := ?r8_o5) ?r8_ho5 (fun K hK => ?_) AllReadyH.nil
                  case r8_ho5 => (conv => lhs; whnf; arg 1; whnf)
                  refine step_call_gu rfl CEK.out _ _ rfl #[.int .i64 0, .int .i64 xp] rfl (CK0.out _) ?_; rintro r wa ⟨rfl, hwa⟩; refine ⟨_, rfl, ?_⟩; have hxa := Ex.trans (Ex.refl _).drew hwa
                  refine hK.out _ _ ?r8_hS5 (fun hHeld5 => ?_)
                  case r8_hS5 => exact FK9.out _ hxa
                  clear hK K hHeld
                  try simp only [Act.put, List.setIfInBounds_toArray, List.set_cons_zero, List.set_cons_succ]
                  refine wpAnyH_ready (rs := [6]) (by kernel_rfl) (by simp) ?_
                  refine AllReadyH.cons (o := ?r8_o6) ?r8_ho6 (fun K hK => ?_) AllReadyH.nil
                  case r8_ho6 => (conv => lhs; whnf; arg 1; whnf)
                  refine step_call_gu rfl CEF.out _ _ rfl #[.agg #[.slice A nb c, .slice B k d], .agg #[.int .i64 kk.space, .int .i64 kk.page]] rfl (CF0.out _ (HF.out.ex ((HQ.out.trans EW.out).trans hxa))) ?_; rintro r w3 ⟨rfl, he⟩; refine ⟨_, rfl, ?_⟩; have hx3 := Ex.trans hxa he
                  refine hK.out _ _ ?r8_hS6 (fun hHeld6 => ?_)
                  case r8_hS6 => exact FK9.out _ hx3
                  clear hK K hHeld5
                  try simp only [Act.put, List.setIfInBounds_toArray, List.set_cons_zero, List.set_cons_succ]
                  refine tk 7 ?_
                  refine wpAnyH_done (by kernel_rfl) ?_ _
                  have HX3 := zq hx3
                  clear hx3 hxa he hwa
                  go_wp2_with fail
                  have FK10 : Hid (∀ w', Ex w3 w' → True) := zq (fun w' h => trivial)
                  refine wp_region_held_drew (S := (fun w' => True)) (by kernel_rfl) ?r9_hS0 (fun hHeld => ?_)
                  case r9_hS0 => exact FK10.out _ (Ex.refl _).drew
                  refine tk 0 ?_; refine tk 1 ?_; refine tk 2 ?_; refine tn 3 ?_; refine tn 4 ?_; refine tn 5 ?_; refine tn 6 ?_; refine tk 7 ?_; refine tk 8 ?_; refine tn 9 ?_; refine tn 10 ?_; refine tn 11 ?_; refine tn 12 ?_; refine tn 13 ?_
                  refine tn 14 ?_; refine tn 15 ?_; refine tn 16 ?_; refine tn 17 ?_; refine tn 18 ?_; refine tk 19 ?_
                  refine wpAnyH_done (by kernel_rfl) ?_ _
                  go_wp2
                  go_ret
                  exact HNO.out _ ((HQ.out.trans EW.out).trans HX3.out).drew HBAD.out
                rw [hm] at CF0 hq
                have hin : i < k := by have := getElem?_lt hfi; have := HN.out; omega
                obtain ⟨b2, o2, f', rfl, hb2, hfi', z0, z1, z2, z3, z4⟩ := (HF.out.ex HQ.out).frame (k := i) (getElem?_lt hfi)
                have e : f = f' := by rw [hfi] at hfi'; injection hfi'
                subst e
                have HB2 := zq hb2
                have Z3 := zq z3
                have HIFF : Hid (LineFits m ⟨true, (-1), xp, xf, xr, true⟩ ↔ (i : Int) = xf ∧ f.rights = xr) := zq (by
                  constructor
                  · rintro ⟨_, _, ⟨i', f', h1, h2, h3, h4⟩, h5⟩
                    have e : i' = i := by rw [hq] at h1; omega
                    subst e
                    rw [hfi] at h3
                    injection h3 with h3
                    rw [h3]
                    exact ⟨h2, h4⟩
                  · rintro ⟨h1, h2⟩
                    exact ⟨HT1.out, HT2.out, ⟨i, f, hq, h1, hfi, h2⟩, HT3.out⟩)
                clear hb2 z0 z1 z2 z3 z4 hq hm hfi hfi'
                have hi0 : ¬ (i : Int) < 0 := by omega
                by_cases hfr : (i : Int) = xf
                rotate_left
                · have HBAD : Hid (¬ MachOk m) := zq (fun h => hfr (HIFF.out.1 (h.2.2 q _ HXI.out rfl)).1)
                  have hbb : ((i : Int) == xf) = false := by simpa using hfr
                  have hbn : ((i : Int) != xf) = true := by simpa using hfr
                  have hbm : (!((i : Int) == xf)) = true := by simpa using hfr
                  go_wp2_with fail
                  obtain ⟨w0, hw0⟩ : ∃ w0 : World, w0 = wr.alloc (.cells #[.bool true, .int .i64 (-1), .int .i64 xp, .int .i64 xf, .int .i64 xr, .bool true] 64) := ⟨_, rfl⟩
                  obtain ⟨gl, hgl⟩ : ∃ gl : Nat, gl = wr.heap.size := ⟨_, rfl⟩
                  have K0 : Hid (Blk w0 gm 34 [.slice A nb c, .slice (some ⟨b2, o2, none⟩) k d, .slice (some ⟨b3, o3, none⟩) nl e, .int .i64 m.cache.hand, .int .i64 m.tags.count, .int .i64 m.tags.next, .int .i64 m.tags.round, .slice O no g, .int .i64 m.space]) := zq (by rw [hw0]; exact KQ.out.alloc _)
                  have K1 : Hid (Blk w0 gl 64 [.bool true, .int .i64 (-1), .int .i64 xp, .int .i64 xf, .int .i64 xr, .bool true]) := zq (by rw [hw0, hgl]; exact Blk.new wr _ _)
                  have EW : Hid (Ex wr w0) := zq (by rw [hw0]; exact (Ex.refl wr).alloc _)
                  rw [← hw0]
                  rw [← hgl]
                  clear hw0 hgl
                  clear q0 q1 q2 q3 q4 q5 q6 q7 q8 jM k0 k1 k2 k3 k4 k5
                  have FK9 : Hid (∀ w', Ex w0 w' → (w'.cell? ⟨gm, 0, none⟩ = some (.slice A nb c) ∧ w'.cell? ⟨gm, 1, none⟩ = some (.slice (some ⟨b2, o2, none⟩) k d) ∧ w'.cell? ⟨gl, 2, none⟩ = some (.int .i64 xp))) := zq (fun w' h => ⟨(K0.out.ex h).c9.1, (K0.out.ex h).c9.2.1, (K1.out.ex h).c6.2.2.1⟩)
                  refine wp_region_held_drew (S := (fun w' => (w'.cell? ⟨gm, 0, none⟩ = some (.slice A nb c) ∧ w'.cell? ⟨gm, 1, none⟩ = some (.slice (some ⟨b2, o2, none⟩) k d) ∧ w'.cell? ⟨gl, 2, none⟩ = some (.int .i64 xp)))) (by kernel_rfl) ?r10_hS0 (fun hHeld => ?_)
                  case r10_hS0 => exact FK9.out _ (Ex.refl _).drew
                  refine tk 0 ?_; refine tk 1 ?_; refine tk 2 ?_; refine tk 3 ?_; refine tk 4 ?_
                  refine wpAnyH_ready (rs := [5]) (by kernel_rfl) (by simp) ?_
                  refine AllReadyH.cons (o := ?r10_o5) ?r10_ho5 (fun K hK => ?_) AllReadyH.nil
                  case r10_ho5 => (conv => lhs; whnf; arg 1; whnf)
                  refine step_call_gu rfl CEK.out _ _ rfl #[.int .i64 0, .int .i64 xp] rfl (CK0.out _) ?_; rintro r wa ⟨rfl, hwa⟩; refine ⟨_, rfl, ?_⟩; have hxa := Ex.trans (Ex.refl _).drew hwa
                  refine hK.out _ _ ?r10_hS5 (fun hHeld5 => ?_)
                  case r10_hS5 => exact FK9.out _ hxa
                  clear hK K hHeld
                  try simp only [Act.put, List.setIfInBounds_toArray, List.set_cons_zero, List.set_cons_succ]
                  refine wpAnyH_ready (rs := [6]) (by kernel_rfl) (by simp) ?_
                  refine AllReadyH.cons (o := ?r10_o6) ?r10_ho6 (fun K hK => ?_) AllReadyH.nil
                  case r10_ho6 => (conv => lhs; whnf; arg 1; whnf)
                  refine step_call_gu rfl CEF.out _ _ rfl #[.agg #[.slice A nb c, .slice (some ⟨b2, o2, none⟩) k d], .agg #[.int .i64 kk.space, .int .i64 kk.page]] rfl (CF0.out _ (HF.out.ex ((HQ.out.trans EW.out).trans hxa))) ?_; rintro r w3 ⟨rfl, he⟩; refine ⟨_, rfl, ?_⟩; have hx3 := Ex.trans hxa he
                  refine hK.out _ _ ?r10_hS6 (fun hHeld6 => ?_)
                  case r10_hS6 => exact FK9.out _ hx3
                  clear hK K hHeld5
                  try simp only [Act.put, List.setIfInBounds_toArray, List.set_cons_zero, List.set_cons_succ]
                  refine tk 7 ?_
                  refine wpAnyH_done (by kernel_rfl) ?_ _
                  have HX3 := zq hx3
                  clear hx3 hxa he hwa
                  go_wp2_with fail
                  have FK10 : Hid (∀ w', Ex w3 w' → (w'.cell? ⟨gl, 3, none⟩ = some (.int .i64 xf))) := zq (fun w' h => (K1.out.ex (HX3.out.trans h)).c6.2.2.2.1)
                  refine wp_region_held_drew (S := (fun w' => (w'.cell? ⟨gl, 3, none⟩ = some (.int .i64 xf)))) (by kernel_rfl) ?r11_hS0 (fun hHeld => ?_)
                  case r11_hS0 => exact FK10.out _ (Ex.refl _).drew
                  refine tk 0 ?_; refine tk 1 ?_; refine tk 2 ?_; refine tk 3 ?_; refine tk 4 ?_; refine tk 5 ?_; refine tk 6 ?_; refine tk 7 ?_; refine tk 8 ?_; refine tn 9 ?_; refine tn 10 ?_; refine tn 11 ?_; refine tn 12 ?_; refine tn 13 ?_
                  refine tn 14 ?_; refine tn 15 ?_; refine tn 16 ?_; refine tn 17 ?_; refine tn 18 ?_; refine tk 19 ?_
                  refine wpAnyH_done (by kernel_rfl) ?_ _
                  go_wp2
                  go_ret
                  exact HNO.out _ ((HQ.out.trans EW.out).trans HX3.out).drew HBAD.out
                by_cases hr : f.rights = xr
                rotate_left
                · have HBAD : Hid (¬ MachOk m) := zq (fun h => hr (HIFF.out.1 (h.2.2 q _ HXI.out rfl)).2)
                  have hbb : (f.rights == xr) = false := by simpa using hr
                  have hbn : (f.rights != xr) = true := by simpa using hr
                  have hbm : (!(f.rights == xr)) = true := by simpa using hr
                  clear HIFF
                  subst hfr
                  go_wp2_with fail
                  obtain ⟨w0, hw0⟩ : ∃ w0 : World, w0 = wr.alloc (.cells #[.bool true, .int .i64 (-1), .int .i64 xp, .int .i64 (i : Int), .int .i64 xr, .bool true] 64) := ⟨_, rfl⟩
                  obtain ⟨gl, hgl⟩ : ∃ gl : Nat, gl = wr.heap.size := ⟨_, rfl⟩
                  have K0 : Hid (Blk w0 gm 34 [.slice A nb c, .slice (some ⟨b2, o2, none⟩) k d, .slice (some ⟨b3, o3, none⟩) nl e, .int .i64 m.cache.hand, .int .i64 m.tags.count, .int .i64 m.tags.next, .int .i64 m.tags.round, .slice O no g, .int .i64 m.space]) := zq (by rw [hw0]; exact KQ.out.alloc _)
                  have K1 : Hid (Blk w0 gl 64 [.bool true, .int .i64 (-1), .int .i64 xp, .int .i64 (i : Int), .int .i64 xr, .bool true]) := zq (by rw [hw0, hgl]; exact Blk.new wr _ _)
                  have EW : Hid (Ex wr w0) := zq (by rw [hw0]; exact (Ex.refl wr).alloc _)
                  rw [← hw0]
                  rw [← hgl]
                  clear hw0 hgl
                  clear q0 q1 q2 q3 q4 q5 q6 q7 q8 jM k0 k1 k2 k3 k4 k5
                  have FK9 : Hid (∀ w', Ex w0 w' → (w'.cell? ⟨gm, 0, none⟩ = some (.slice A nb c) ∧ w'.cell? ⟨gm, 1, none⟩ = some (.slice (some ⟨b2, o2, none⟩) k d) ∧ w'.cell? ⟨gl, 2, none⟩ = some (.int .i64 xp))) := zq (fun w' h => ⟨(K0.out.ex h).c9.1, (K0.out.ex h).c9.2.1, (K1.out.ex h).c6.2.2.1⟩)
                  refine wp_region_held_drew (S := (fun w' => (w'.cell? ⟨gm, 0, none⟩ = some (.slice A nb c) ∧ w'.cell? ⟨gm, 1, none⟩ = some (.slice (some ⟨b2, o2, none⟩) k d) ∧ w'.cell? ⟨gl, 2, none⟩ = some (.int .i64 xp)))) (by kernel_rfl) ?r12_hS0 (fun hHeld => ?_)
                  case r12_hS0 => exact FK9.out _ (Ex.refl _).drew
                  refine tk 0 ?_; refine tk 1 ?_; refine tk 2 ?_; refine tk 3 ?_; refine tk 4 ?_
                  refine wpAnyH_ready (rs := [5]) (by kernel_rfl) (by simp) ?_
                  refine AllReadyH.cons (o := ?r12_o5) ?r12_ho5 (fun K hK => ?_) AllReadyH.nil
                  case r12_ho5 => (conv => lhs; whnf; arg 1; whnf)
                  refine step_call_gu rfl CEK.out _ _ rfl #[.int .i64 0, .int .i64 xp] rfl (CK0.out _) ?_; rintro r wa ⟨rfl, hwa⟩; refine ⟨_, rfl, ?_⟩; have hxa := Ex.trans (Ex.refl _).drew hwa
                  refine hK.out _ _ ?r12_hS5 (fun hHeld5 => ?_)
                  case r12_hS5 => exact FK9.out _ hxa
                  clear hK K hHeld
                  try simp only [Act.put, List.setIfInBounds_toArray, List.set_cons_zero, List.set_cons_succ]
                  refine wpAnyH_ready (rs := [6]) (by kernel_rfl) (by simp) ?_
                  refine AllReadyH.cons (o := ?r12_o6) ?r12_ho6 (fun K hK => ?_) AllReadyH.nil
                  case r12_ho6 => (conv => lhs; whnf; arg 1; whnf)
                  refine step_call_gu rfl CEF.out _ _ rfl #[.agg #[.slice A nb c, .slice (some ⟨b2, o2, none⟩) k d], .agg #[.int .i64 kk.space, .int .i64 kk.page]] rfl (CF0.out _ (HF.out.ex ((HQ.out.trans EW.out).trans hxa))) ?_; rintro r w3 ⟨rfl, he⟩; refine ⟨_, rfl, ?_⟩; have hx3 := Ex.trans hxa he
                  refine hK.out _ _ ?r12_hS6 (fun hHeld6 => ?_)
                  case r12_hS6 => exact FK9.out _ hx3
                  clear hK K hHeld5
                  try simp only [Act.put, List.setIfInBounds_toArray, List.set_cons_zero, List.set_cons_succ]
                  refine tk 7 ?_
                  refine wpAnyH_done (by kernel_rfl) ?_ _
                  have HX3 := zq hx3
                  clear hx3 hxa he hwa
                  go_wp2_with fail
                  have FK10 : Hid (∀ w', Ex w3 w' → (w'.cell? ⟨gl, 3, none⟩ = some (.int .i64 (i : Int)) ∧ w'.cell? ⟨gl, 4, none⟩ = some (.int .i64 xr) ∧ w'.cell? ⟨gm, 1, none⟩ = some (.slice (some ⟨b2, o2, none⟩) k d) ∧ w'.cell? ⟨b2, o2 + i * 5 + 3, none⟩ = some (.int .i64 f.rights))) := zq (fun w' h => ⟨(K1.out.ex (HX3.out.trans h)).c6.2.2.2.1, (K1.out.ex (HX3.out.trans h)).c6.2.2.2.2.1, (K0.out.ex (HX3.out.trans h)).c9.2.1, (((EW.out.trans HX3.out).trans h).cell HB2.out).trans Z3.out⟩)
                  refine wp_region_held_drew (S := (fun w' => (w'.cell? ⟨gl, 3, none⟩ = some (.int .i64 (i : Int)) ∧ w'.cell? ⟨gl, 4, none⟩ = some (.int .i64 xr) ∧ w'.cell? ⟨gm, 1, none⟩ = some (.slice (some ⟨b2, o2, none⟩) k d) ∧ w'.cell? ⟨b2, o2 + i * 5 + 3, none⟩ = some (.int .i64 f.rights)))) (by kernel_rfl) ?r13_hS0 (fun hHeld => ?_)
                  case r13_hS0 => exact FK10.out _ (Ex.refl _).drew
                  refine tk 0 ?_; refine tk 1 ?_; refine tk 2 ?_; refine tk 3 ?_; refine tk 4 ?_; refine tk 5 ?_; refine tk 6 ?_; refine tk 7 ?_; refine tk 8 ?_; refine tk 9 ?_; refine tk 10 ?_; refine tk 11 ?_; refine tk 12 ?_; refine tk 13 ?_
                  refine tk 14 ?_; refine tk 15 ?_; refine tk 16 ?_; refine tk 17 ?_; refine tk 18 ?_; refine tk 19 ?_
                  refine wpAnyH_done (by kernel_rfl) ?_ _
                  go_wp2
                  go_ret
                  exact HNO.out _ ((HQ.out.trans EW.out).trans HX3.out).drew HBAD.out
                have HFF := zq (HNEXT.out (fun _ => HIFF.out.2 ⟨hfr, hr⟩))
                clear HIFF
                subst hfr
                subst hr
                go_wp2_with fail
                obtain ⟨w0, hw0⟩ : ∃ w0 : World, w0 = wr.alloc (.cells #[.bool true, .int .i64 (-1), .int .i64 xp, .int .i64 (i : Int), .int .i64 f.rights, .bool true] 64) := ⟨_, rfl⟩
                obtain ⟨gl, hgl⟩ : ∃ gl : Nat, gl = wr.heap.size := ⟨_, rfl⟩
                have K0 : Hid (Blk w0 gm 34 [.slice A nb c, .slice (some ⟨b2, o2, none⟩) k d, .slice (some ⟨b3, o3, none⟩) nl e, .int .i64 m.cache.hand, .int .i64 m.tags.count, .int .i64 m.tags.next, .int .i64 m.tags.round, .slice O no g, .int .i64 m.space]) := zq (by rw [hw0]; exact KQ.out.alloc _)
                have K1 : Hid (Blk w0 gl 64 [.bool true, .int .i64 (-1), .int .i64 xp, .int .i64 (i : Int), .int .i64 f.rights, .bool true]) := zq (by rw [hw0, hgl]; exact Blk.new wr _ _)
                have EW : Hid (Ex wr w0) := zq (by rw [hw0]; exact (Ex.refl wr).alloc _)
                rw [← hw0]
                rw [← hgl]
                clear hw0 hgl
                clear q0 q1 q2 q3 q4 q5 q6 q7 q8 jM k0 k1 k2 k3 k4 k5
                have FK9 : Hid (∀ w', Ex w0 w' → (w'.cell? ⟨gm, 0, none⟩ = some (.slice A nb c) ∧ w'.cell? ⟨gm, 1, none⟩ = some (.slice (some ⟨b2, o2, none⟩) k d) ∧ w'.cell? ⟨gl, 2, none⟩ = some (.int .i64 xp))) := zq (fun w' h => ⟨(K0.out.ex h).c9.1, (K0.out.ex h).c9.2.1, (K1.out.ex h).c6.2.2.1⟩)
                refine wp_region_held_drew (S := (fun w' => (w'.cell? ⟨gm, 0, none⟩ = some (.slice A nb c) ∧ w'.cell? ⟨gm, 1, none⟩ = some (.slice (some ⟨b2, o2, none⟩) k d) ∧ w'.cell? ⟨gl, 2, none⟩ = some (.int .i64 xp)))) (by kernel_rfl) ?r14_hS0 (fun hHeld => ?_)
                case r14_hS0 => exact FK9.out _ (Ex.refl _).drew
                refine tk 0 ?_; refine tk 1 ?_; refine tk 2 ?_; refine tk 3 ?_; refine tk 4 ?_
                refine wpAnyH_ready (rs := [5]) (by kernel_rfl) (by simp) ?_
                refine AllReadyH.cons (o := ?r14_o5) ?r14_ho5 (fun K hK => ?_) AllReadyH.nil
                case r14_ho5 => (conv => lhs; whnf; arg 1; whnf)
                refine step_call_gu rfl CEK.out _ _ rfl #[.int .i64 0, .int .i64 xp] rfl (CK0.out _) ?_; rintro r wa ⟨rfl, hwa⟩; refine ⟨_, rfl, ?_⟩; have hxa := Ex.trans (Ex.refl _).drew hwa
                refine hK.out _ _ ?r14_hS5 (fun hHeld5 => ?_)
                case r14_hS5 => exact FK9.out _ hxa
                clear hK K hHeld
                try simp only [Act.put, List.setIfInBounds_toArray, List.set_cons_zero, List.set_cons_succ]
                refine wpAnyH_ready (rs := [6]) (by kernel_rfl) (by simp) ?_
                refine AllReadyH.cons (o := ?r14_o6) ?r14_ho6 (fun K hK => ?_) AllReadyH.nil
                case r14_ho6 => (conv => lhs; whnf; arg 1; whnf)
                refine step_call_gu rfl CEF.out _ _ rfl #[.agg #[.slice A nb c, .slice (some ⟨b2, o2, none⟩) k d], .agg #[.int .i64 kk.space, .int .i64 kk.page]] rfl (CF0.out _ (HF.out.ex ((HQ.out.trans EW.out).trans hxa))) ?_; rintro r w3 ⟨rfl, he⟩; refine ⟨_, rfl, ?_⟩; have hx3 := Ex.trans hxa he
                refine hK.out _ _ ?r14_hS6 (fun hHeld6 => ?_)
                case r14_hS6 => exact FK9.out _ hx3
                clear hK K hHeld5
                try simp only [Act.put, List.setIfInBounds_toArray, List.set_cons_zero, List.set_cons_succ]
                refine tk 7 ?_
                refine wpAnyH_done (by kernel_rfl) ?_ _
                have HX3 := zq hx3
                clear hx3 hxa he hwa
                go_wp2_with fail
                have FK10 : Hid (∀ w', Ex w3 w' → (w'.cell? ⟨gl, 3, none⟩ = some (.int .i64 (i : Int)) ∧ w'.cell? ⟨gl, 4, none⟩ = some (.int .i64 f.rights) ∧ w'.cell? ⟨gm, 1, none⟩ = some (.slice (some ⟨b2, o2, none⟩) k d) ∧ w'.cell? ⟨b2, o2 + i * 5 + 3, none⟩ = some (.int .i64 f.rights))) := zq (fun w' h => ⟨(K1.out.ex (HX3.out.trans h)).c6.2.2.2.1, (K1.out.ex (HX3.out.trans h)).c6.2.2.2.2.1, (K0.out.ex (HX3.out.trans h)).c9.2.1, (((EW.out.trans HX3.out).trans h).cell HB2.out).trans Z3.out⟩)
                refine wp_region_held_drew (S := (fun w' => (w'.cell? ⟨gl, 3, none⟩ = some (.int .i64 (i : Int)) ∧ w'.cell? ⟨gl, 4, none⟩ = some (.int .i64 f.rights) ∧ w'.cell? ⟨gm, 1, none⟩ = some (.slice (some ⟨b2, o2, none⟩) k d) ∧ w'.cell? ⟨b2, o2 + i * 5 + 3, none⟩ = some (.int .i64 f.rights)))) (by kernel_rfl) ?r15_hS0 (fun hHeld => ?_)
                case r15_hS0 => exact FK10.out _ (Ex.refl _).drew
                refine tk 0 ?_; refine tk 1 ?_; refine tk 2 ?_; refine tk 3 ?_; refine tk 4 ?_; refine tk 5 ?_; refine tk 6 ?_; refine tk 7 ?_; refine tk 8 ?_; refine tk 9 ?_; refine tk 10 ?_; refine tk 11 ?_; refine tk 12 ?_; refine tk 13 ?_
                refine tk 14 ?_; refine tk 15 ?_; refine tk 16 ?_; refine tk 17 ?_; refine tk 18 ?_; refine tk 19 ?_
                refine wpAnyH_done (by kernel_rfl) ?_ _
                go_wp2
                go_roundw
                case rel => exact ⟨q + 1, by omega, by go_num, ((HQ4.out.trans EW.out).trans HX3.out).drew, HFF.out⟩
                case measure => simp [intOf]; omega
            · have HBAD : Hid (¬ MachOk m) := zq (fun h => hpg ((h.2.2 q _ HXI.out rfl).1.1 htg))
              subst htg
              cases xw
              all_goals
                go_wp2
                go_ret
                exact HNO.out _ (HQ.out.alloc _) HBAD.out
          · have hb1 : (xt == -1) = false := by simpa using htg
            by_cases hpg : 128 ≤ xp
            · have HBAD : Hid (¬ MachOk m) := zq (fun h => htg ((h.2.2 q _ HXI.out rfl).1.2 hpg))
              cases xw
              all_goals
                go_wp2
                go_ret
                exact HNO.out _ (HQ.out.alloc _) HBAD.out
            · cases xw
              rotate_left
              · have HBAD : Hid (¬ MachOk m) := zq (fun h => htg ((h.2.2 q _ HXI.out rfl).2.2.2 rfl))
                go_wp2
                go_ret
                exact HNO.out _ (HQ.out.alloc _) HBAD.out
              cases hso : (spaceOf m.tags xt).2
              · have HBAD : Hid (¬ MachOk m) := zq (fun h => by have h1 : (spaceOf m.tags xt).2 = true := (h.2.2 q _ HXI.out rfl).2.1 htg; rw [hso] at h1; cases h1)
                go_wp2_with fail
                refine (CT.out xt _ ((HO.out.ex HQ.out).alloc _)).mono ?_
                rw [hso]
                rintro r w0 ⟨rfl, he⟩
                clear hso
                go_wp2
                go_ret
                exact HNO.out _ ((HQ.out.alloc _).trans he) HBAD.out
              · have hq : lineAt m ⟨true, xt, xp, xf, xr, false⟩ = findF m.table (keyFor (spaceOf m.tags xt).1 xp) := by unfold lineAt lineSpace; rw [if_neg htg]
                have HT1 : Hid (xt = -1 ↔ 128 ≤ xp) := zq (by simp [htg, hpg])
                have HT2 : Hid (xt ≠ -1 → (spaceOf m.tags xt).2 = true) := zq (fun h => hso)
                have HT3 : Hid (false = true → xt = -1) := zq (fun h => by cases h)
                have CT := zq (CT.out xt)
                rw [hso] at CT
                generalize (spaceOf m.tags xt).1 = sp at CT hq
                clear hso
                have CK0 := zq (fun w' => CK.out sp xp w')
                generalize keyFor sp xp = kk at hq CK0
                have CF0 := zq (fun w' h => CF.out kk w' h)
                rcases findF_range (t := m.table) kk with hm | ⟨i, f, hm, hfi⟩
                · have HBAD : Hid (¬ MachOk m) := zq (fun h => by obtain ⟨i, f, h1, _⟩ := (h.2.2 q _ HXI.out rfl).2.2.1; rw [hq, hm] at h1; omega)
                  rw [hm] at CF0
                  clear hq hm
                  go_wp2_with fail
                  refine (CT.out _ ((HO.out.ex HQ.out).alloc _)).mono ?_
                  rintro r w0 ⟨rfl, he⟩
                  obtain ⟨gl, hgl⟩ : ∃ gl : Nat, gl = wr.heap.size := ⟨_, rfl⟩
                  have K0 : Hid (Blk w0 gm 34 [.slice A nb c, .slice B k d, .slice (some ⟨b3, o3, none⟩) nl e, .int .i64 m.cache.hand, .int .i64 m.tags.count, .int .i64 m.tags.next, .int .i64 m.tags.round, .slice O no g, .int .i64 m.space]) := zq ((KQ.out.alloc _).ex he)
                  have K1 : Hid (Blk w0 gl 64 [.bool true, .int .i64 xt, .int .i64 xp, .int .i64 xf, .int .i64 xr, .bool false]) := zq (by rw [hgl]; exact (Blk.new wr _ _).ex he)
                  have EW : Hid (Ex wr w0) := zq (((Ex.refl wr).alloc _).trans he)
                  clear he
                  rw [← hgl]
                  clear hgl q0 q1 q2 q3 q4 q5 q6 q7 q8 jM k0 k1 k2 k3 k4 k5
                  obtain ⟨q0, q1, q2, q3, q4, q5, q6, q7, q8⟩ := K0.out.c9
                  obtain ⟨k0, k1, k2, k3, k4, k5⟩ := K1.out.c6
                  have jM := K0.out.lt
                  have jL := K1.out.lt
                  go_wp2_with fail
                  clear jL
                  clear q0 q1 q2 q3 q4 q5 q6 q7 q8 jM k0 k1 k2 k3 k4 k5
                  have FK9 : Hid (∀ w', Ex w0 w' → (w'.cell? ⟨gm, 0, none⟩ = some (.slice A nb c) ∧ w'.cell? ⟨gm, 1, none⟩ = some (.slice B k d) ∧ w'.cell? ⟨gl, 2, none⟩ = some (.int .i64 xp))) := zq (fun w' h => ⟨(K0.out.ex h).c9.1, (K0.out.ex h).c9.2.1, (K1.out.ex h).c6.2.2.1⟩)
                  refine wp_region_held_drew (S := (fun w' => (w'.cell? ⟨gm, 0, none⟩ = some (.slice A nb c) ∧ w'.cell? ⟨gm, 1, none⟩ = some (.slice B k d) ∧ w'.cell? ⟨gl, 2, none⟩ = some (.int .i64 xp)))) (by kernel_rfl) ?r16_hS0 (fun hHeld => ?_)
                  case r16_hS0 => exact FK9.out _ (Ex.refl _).drew
                  refine tk 0 ?_; refine tk 1 ?_; refine tk 2 ?_; refine tk 3 ?_; refine tk 4 ?_
                  refine wpAnyH_ready (rs := [5]) (by kernel_rfl) (by simp) ?_
                  refine AllReadyH.cons (o := ?r16_o5) ?r16_ho5 (fun K hK => ?_) AllReadyH.nil
                  case r16_ho5 => (conv => lhs; whnf; arg 1; whnf)
                  refine step_call_gu rfl CEK.out _ _ rfl #[.int .i64 sp, .int .i64 xp] rfl (CK0.out _) ?_; rintro r wa ⟨rfl, hwa⟩; refine ⟨_, rfl, ?_⟩; have hxa := Ex.trans (Ex.refl _).drew hwa
                  refine hK.out _ _ ?r16_hS5 (fun hHeld5 => ?_)
                  case r16_hS5 => exact FK9.out _ hxa
                  clear hK K hHeld
                  try simp only [Act.put, List.setIfInBounds_toArray, List.set_cons_zero, List.set_cons_succ]
                  refine wpAnyH_ready (rs := [6]) (by kernel_rfl) (by simp) ?_
                  refine AllReadyH.cons (o := ?r16_o6) ?r16_ho6 (fun K hK => ?_) AllReadyH.nil
                  case r16_ho6 => (conv => lhs; whnf; arg 1; whnf)
                  refine step_call_gu rfl CEF.out _ _ rfl #[.agg #[.slice A nb c, .slice B k d], .agg #[.int .i64 kk.space, .int .i64 kk.page]] rfl (CF0.out _ (HF.out.ex ((HQ.out.trans EW.out).trans hxa))) ?_; rintro r w3 ⟨rfl, he⟩; refine ⟨_, rfl, ?_⟩; have hx3 := Ex.trans hxa he
                  refine hK.out _ _ ?r16_hS6 (fun hHeld6 => ?_)
                  case r16_hS6 => exact FK9.out _ hx3
                  clear hK K hHeld5
                  try simp only [Act.put, List.setIfInBounds_toArray, List.set_cons_zero, List.set_cons_succ]
                  refine tk 7 ?_
                  refine wpAnyH_done (by kernel_rfl) ?_ _
                  have HX3 := zq hx3
                  clear hx3 hxa he hwa
                  go_wp2_with fail
                  have FK10 : Hid (∀ w', Ex w3 w' → True) := zq (fun w' h => trivial)
                  refine wp_region_held_drew (S := (fun w' => True)) (by kernel_rfl) ?r17_hS0 (fun hHeld => ?_)
                  case r17_hS0 => exact FK10.out _ (Ex.refl _).drew
                  refine tk 0 ?_; refine tk 1 ?_; refine tk 2 ?_; refine tn 3 ?_; refine tn 4 ?_; refine tn 5 ?_; refine tn 6 ?_; refine tk 7 ?_; refine tk 8 ?_; refine tn 9 ?_; refine tn 10 ?_; refine tn 11 ?_; refine tn 12 ?_; refine tn 13 ?_
                  refine tn 14 ?_; refine tn 15 ?_; refine tn 16 ?_; refine tn 17 ?_; refine tn 18 ?_; refine tk 19 ?_
                  refine wpAnyH_done (by kernel_rfl) ?_ _
                  go_wp2
                  go_ret
                  exact HNO.out _ ((HQ.out.trans EW.out).trans HX3.out).drew HBAD.out
                rw [hm] at CF0 hq
                have hin : i < k := by have := getElem?_lt hfi; have := HN.out; omega
                obtain ⟨b2, o2, f', rfl, hb2, hfi', z0, z1, z2, z3, z4⟩ := (HF.out.ex HQ.out).frame (k := i) (getElem?_lt hfi)
                have e : f = f' := by rw [hfi] at hfi'; injection hfi'
                subst e
                have HB2 := zq hb2
                have Z3 := zq z3
                have HIFF : Hid (LineFits m ⟨true, xt, xp, xf, xr, false⟩ ↔ (i : Int) = xf ∧ f.rights = xr) := zq (by
                  constructor
                  · rintro ⟨_, _, ⟨i', f', h1, h2, h3, h4⟩, h5⟩
                    have e : i' = i := by rw [hq] at h1; omega
                    subst e
                    rw [hfi] at h3
                    injection h3 with h3
                    rw [h3]
                    exact ⟨h2, h4⟩
                  · rintro ⟨h1, h2⟩
                    exact ⟨HT1.out, HT2.out, ⟨i, f, hq, h1, hfi, h2⟩, HT3.out⟩)
                clear hb2 z0 z1 z2 z3 z4 hq hm hfi hfi'
                have hi0 : ¬ (i : Int) < 0 := by omega
                by_cases hfr : (i : Int) = xf
                rotate_left
                · have HBAD : Hid (¬ MachOk m) := zq (fun h => hfr (HIFF.out.1 (h.2.2 q _ HXI.out rfl)).1)
                  have hbb : ((i : Int) == xf) = false := by simpa using hfr
                  have hbn : ((i : Int) != xf) = true := by simpa using hfr
                  have hbm : (!((i : Int) == xf)) = true := by simpa using hfr
                  go_wp2_with fail
                  refine (CT.out _ ((HO.out.ex HQ.out).alloc _)).mono ?_
                  rintro r w0 ⟨rfl, he⟩
                  obtain ⟨gl, hgl⟩ : ∃ gl : Nat, gl = wr.heap.size := ⟨_, rfl⟩
                  have K0 : Hid (Blk w0 gm 34 [.slice A nb c, .slice (some ⟨b2, o2, none⟩) k d, .slice (some ⟨b3, o3, none⟩) nl e, .int .i64 m.cache.hand, .int .i64 m.tags.count, .int .i64 m.tags.next, .int .i64 m.tags.round, .slice O no g, .int .i64 m.space]) := zq ((KQ.out.alloc _).ex he)
                  have K1 : Hid (Blk w0 gl 64 [.bool true, .int .i64 xt, .int .i64 xp, .int .i64 xf, .int .i64 xr, .bool false]) := zq (by rw [hgl]; exact (Blk.new wr _ _).ex he)
                  have EW : Hid (Ex wr w0) := zq (((Ex.refl wr).alloc _).trans he)
                  clear he
                  rw [← hgl]
                  clear hgl q0 q1 q2 q3 q4 q5 q6 q7 q8 jM k0 k1 k2 k3 k4 k5
                  obtain ⟨q0, q1, q2, q3, q4, q5, q6, q7, q8⟩ := K0.out.c9
                  obtain ⟨k0, k1, k2, k3, k4, k5⟩ := K1.out.c6
                  have jM := K0.out.lt
                  have jL := K1.out.lt
                  go_wp2_with fail
                  clear jL
                  clear q0 q1 q2 q3 q4 q5 q6 q7 q8 jM k0 k1 k2 k3 k4 k5
                  have FK9 : Hid (∀ w', Ex w0 w' → (w'.cell? ⟨gm, 0, none⟩ = some (.slice A nb c) ∧ w'.cell? ⟨gm, 1, none⟩ = some (.slice (some ⟨b2, o2, none⟩) k d) ∧ w'.cell? ⟨gl, 2, none⟩ = some (.int .i64 xp))) := zq (fun w' h => ⟨(K0.out.ex h).c9.1, (K0.out.ex h).c9.2.1, (K1.out.ex h).c6.2.2.1⟩)
                  refine wp_region_held_drew (S := (fun w' => (w'.cell? ⟨gm, 0, none⟩ = some (.slice A nb c) ∧ w'.cell? ⟨gm, 1, none⟩ = some (.slice (some ⟨b2, o2, none⟩) k d) ∧ w'.cell? ⟨gl, 2, none⟩ = some (.int .i64 xp)))) (by kernel_rfl) ?r18_hS0 (fun hHeld => ?_)
                  case r18_hS0 => exact FK9.out _ (Ex.refl _).drew
                  refine tk 0 ?_; refine tk 1 ?_; refine tk 2 ?_; refine tk 3 ?_; refine tk 4 ?_
                  refine wpAnyH_ready (rs := [5]) (by kernel_rfl) (by simp) ?_
                  refine AllReadyH.cons (o := ?r18_o5) ?r18_ho5 (fun K hK => ?_) AllReadyH.nil
                  case r18_ho5 => (conv => lhs; whnf; arg 1; whnf)
                  refine step_call_gu rfl CEK.out _ _ rfl #[.int .i64 sp, .int .i64 xp] rfl (CK0.out _) ?_; rintro r wa ⟨rfl, hwa⟩; refine ⟨_, rfl, ?_⟩; have hxa := Ex.trans (Ex.refl _).drew hwa
                  refine hK.out _ _ ?r18_hS5 (fun hHeld5 => ?_)
                  case r18_hS5 => exact FK9.out _ hxa
                  clear hK K hHeld
                  try simp only [Act.put, List.setIfInBounds_toArray, List.set_cons_zero, List.set_cons_succ]
                  refine wpAnyH_ready (rs := [6]) (by kernel_rfl) (by simp) ?_
                  refine AllReadyH.cons (o := ?r18_o6) ?r18_ho6 (fun K hK => ?_) AllReadyH.nil
                  case r18_ho6 => (conv => lhs; whnf; arg 1; whnf)
                  refine step_call_gu rfl CEF.out _ _ rfl #[.agg #[.slice A nb c, .slice (some ⟨b2, o2, none⟩) k d], .agg #[.int .i64 kk.space, .int .i64 kk.page]] rfl (CF0.out _ (HF.out.ex ((HQ.out.trans EW.out).trans hxa))) ?_; rintro r w3 ⟨rfl, he⟩; refine ⟨_, rfl, ?_⟩; have hx3 := Ex.trans hxa he
                  refine hK.out _ _ ?r18_hS6 (fun hHeld6 => ?_)
                  case r18_hS6 => exact FK9.out _ hx3
                  clear hK K hHeld5
                  try simp only [Act.put, List.setIfInBounds_toArray, List.set_cons_zero, List.set_cons_succ]
                  refine tk 7 ?_
                  refine wpAnyH_done (by kernel_rfl) ?_ _
                  have HX3 := zq hx3
                  clear hx3 hxa he hwa
                  go_wp2_with fail
                  have FK10 : Hid (∀ w', Ex w3 w' → (w'.cell? ⟨gl, 3, none⟩ = some (.int .i64 xf))) := zq (fun w' h => (K1.out.ex (HX3.out.trans h)).c6.2.2.2.1)
                  refine wp_region_held_drew (S := (fun w' => (w'.cell? ⟨gl, 3, none⟩ = some (.int .i64 xf)))) (by kernel_rfl) ?r19_hS0 (fun hHeld => ?_)
                  case r19_hS0 => exact FK10.out _ (Ex.refl _).drew
                  refine tk 0 ?_; refine tk 1 ?_; refine tk 2 ?_; refine tk 3 ?_; refine tk 4 ?_; refine tk 5 ?_; refine tk 6 ?_; refine tk 7 ?_; refine tk 8 ?_; refine tn 9 ?_; refine tn 10 ?_; refine tn 11 ?_; refine tn 12 ?_; refine tn 13 ?_
                  refine tn 14 ?_; refine tn 15 ?_; refine tn 16 ?_; refine tn 17 ?_; refine tn 18 ?_; refine tk 19 ?_
                  refine wpAnyH_done (by kernel_rfl) ?_ _
                  go_wp2
                  go_ret
                  exact HNO.out _ ((HQ.out.trans EW.out).trans HX3.out).drew HBAD.out
                by_cases hr : f.rights = xr
                rotate_left
                · have HBAD : Hid (¬ MachOk m) := zq (fun h => hr (HIFF.out.1 (h.2.2 q _ HXI.out rfl)).2)
                  have hbb : (f.rights == xr) = false := by simpa using hr
                  have hbn : (f.rights != xr) = true := by simpa using hr
                  have hbm : (!(f.rights == xr)) = true := by simpa using hr
                  clear HIFF
                  subst hfr
                  go_wp2_with fail
                  refine (CT.out _ ((HO.out.ex HQ.out).alloc _)).mono ?_
                  rintro r w0 ⟨rfl, he⟩
                  obtain ⟨gl, hgl⟩ : ∃ gl : Nat, gl = wr.heap.size := ⟨_, rfl⟩
                  have K0 : Hid (Blk w0 gm 34 [.slice A nb c, .slice (some ⟨b2, o2, none⟩) k d, .slice (some ⟨b3, o3, none⟩) nl e, .int .i64 m.cache.hand, .int .i64 m.tags.count, .int .i64 m.tags.next, .int .i64 m.tags.round, .slice O no g, .int .i64 m.space]) := zq ((KQ.out.alloc _).ex he)
                  have K1 : Hid (Blk w0 gl 64 [.bool true, .int .i64 xt, .int .i64 xp, .int .i64 (i : Int), .int .i64 xr, .bool false]) := zq (by rw [hgl]; exact (Blk.new wr _ _).ex he)
                  have EW : Hid (Ex wr w0) := zq (((Ex.refl wr).alloc _).trans he)
                  clear he
                  rw [← hgl]
                  clear hgl q0 q1 q2 q3 q4 q5 q6 q7 q8 jM k0 k1 k2 k3 k4 k5
                  obtain ⟨q0, q1, q2, q3, q4, q5, q6, q7, q8⟩ := K0.out.c9
                  obtain ⟨k0, k1, k2, k3, k4, k5⟩ := K1.out.c6
                  have jM := K0.out.lt
                  have jL := K1.out.lt
                  go_wp2_with fail
                  clear jL
                  clear q0 q1 q2 q3 q4 q5 q6 q7 q8 jM k0 k1 k2 k3 k4 k5
                  have FK9 : Hid (∀ w', Ex w0 w' → (w'.cell? ⟨gm, 0, none⟩ = some (.slice A nb c) ∧ w'.cell? ⟨gm, 1, none⟩ = some (.slice (some ⟨b2, o2, none⟩) k d) ∧ w'.cell? ⟨gl, 2, none⟩ = some (.int .i64 xp))) := zq (fun w' h => ⟨(K0.out.ex h).c9.1, (K0.out.ex h).c9.2.1, (K1.out.ex h).c6.2.2.1⟩)
                  refine wp_region_held_drew (S := (fun w' => (w'.cell? ⟨gm, 0, none⟩ = some (.slice A nb c) ∧ w'.cell? ⟨gm, 1, none⟩ = some (.slice (some ⟨b2, o2, none⟩) k d) ∧ w'.cell? ⟨gl, 2, none⟩ = some (.int .i64 xp)))) (by kernel_rfl) ?r20_hS0 (fun hHeld => ?_)
                  case r20_hS0 => exact FK9.out _ (Ex.refl _).drew
                  refine tk 0 ?_; refine tk 1 ?_; refine tk 2 ?_; refine tk 3 ?_; refine tk 4 ?_
                  refine wpAnyH_ready (rs := [5]) (by kernel_rfl) (by simp) ?_
                  refine AllReadyH.cons (o := ?r20_o5) ?r20_ho5 (fun K hK => ?_) AllReadyH.nil
                  case r20_ho5 => (conv => lhs; whnf; arg 1; whnf)
                  refine step_call_gu rfl CEK.out _ _ rfl #[.int .i64 sp, .int .i64 xp] rfl (CK0.out _) ?_; rintro r wa ⟨rfl, hwa⟩; refine ⟨_, rfl, ?_⟩; have hxa := Ex.trans (Ex.refl _).drew hwa
                  refine hK.out _ _ ?r20_hS5 (fun hHeld5 => ?_)
                  case r20_hS5 => exact FK9.out _ hxa
                  clear hK K hHeld
                  try simp only [Act.put, List.setIfInBounds_toArray, List.set_cons_zero, List.set_cons_succ]
                  refine wpAnyH_ready (rs := [6]) (by kernel_rfl) (by simp) ?_
                  refine AllReadyH.cons (o := ?r20_o6) ?r20_ho6 (fun K hK => ?_) AllReadyH.nil
                  case r20_ho6 => (conv => lhs; whnf; arg 1; whnf)
                  refine step_call_gu rfl CEF.out _ _ rfl #[.agg #[.slice A nb c, .slice (some ⟨b2, o2, none⟩) k d], .agg #[.int .i64 kk.space, .int .i64 kk.page]] rfl (CF0.out _ (HF.out.ex ((HQ.out.trans EW.out).trans hxa))) ?_; rintro r w3 ⟨rfl, he⟩; refine ⟨_, rfl, ?_⟩; have hx3 := Ex.trans hxa he
                  refine hK.out _ _ ?r20_hS6 (fun hHeld6 => ?_)
                  case r20_hS6 => exact FK9.out _ hx3
                  clear hK K hHeld5
                  try simp only [Act.put, List.setIfInBounds_toArray, List.set_cons_zero, List.set_cons_succ]
                  refine tk 7 ?_
                  refine wpAnyH_done (by kernel_rfl) ?_ _
                  have HX3 := zq hx3
                  clear hx3 hxa he hwa
                  go_wp2_with fail
                  have FK10 : Hid (∀ w', Ex w3 w' → (w'.cell? ⟨gl, 3, none⟩ = some (.int .i64 (i : Int)) ∧ w'.cell? ⟨gl, 4, none⟩ = some (.int .i64 xr) ∧ w'.cell? ⟨gm, 1, none⟩ = some (.slice (some ⟨b2, o2, none⟩) k d) ∧ w'.cell? ⟨b2, o2 + i * 5 + 3, none⟩ = some (.int .i64 f.rights))) := zq (fun w' h => ⟨(K1.out.ex (HX3.out.trans h)).c6.2.2.2.1, (K1.out.ex (HX3.out.trans h)).c6.2.2.2.2.1, (K0.out.ex (HX3.out.trans h)).c9.2.1, (((EW.out.trans HX3.out).trans h).cell HB2.out).trans Z3.out⟩)
                  refine wp_region_held_drew (S := (fun w' => (w'.cell? ⟨gl, 3, none⟩ = some (.int .i64 (i : Int)) ∧ w'.cell? ⟨gl, 4, none⟩ = some (.int .i64 xr) ∧ w'.cell? ⟨gm, 1, none⟩ = some (.slice (some ⟨b2, o2, none⟩) k d) ∧ w'.cell? ⟨b2, o2 + i * 5 + 3, none⟩ = some (.int .i64 f.rights)))) (by kernel_rfl) ?r21_hS0 (fun hHeld => ?_)
                  case r21_hS0 => exact FK10.out _ (Ex.refl _).drew
                  refine tk 0 ?_; refine tk 1 ?_; refine tk 2 ?_; refine tk 3 ?_; refine tk 4 ?_; refine tk 5 ?_; refine tk 6 ?_; refine tk 7 ?_; refine tk 8 ?_; refine tk 9 ?_; refine tk 10 ?_; refine tk 11 ?_; refine tk 12 ?_; refine tk 13 ?_
                  refine tk 14 ?_; refine tk 15 ?_; refine tk 16 ?_; refine tk 17 ?_; refine tk 18 ?_; refine tk 19 ?_
                  refine wpAnyH_done (by kernel_rfl) ?_ _
                  go_wp2
                  go_ret
                  exact HNO.out _ ((HQ.out.trans EW.out).trans HX3.out).drew HBAD.out
                have HFF := zq (HNEXT.out (fun _ => HIFF.out.2 ⟨hfr, hr⟩))
                clear HIFF
                subst hfr
                subst hr
                go_wp2_with fail
                refine (CT.out _ ((HO.out.ex HQ.out).alloc _)).mono ?_
                rintro r w0 ⟨rfl, he⟩
                obtain ⟨gl, hgl⟩ : ∃ gl : Nat, gl = wr.heap.size := ⟨_, rfl⟩
                have K0 : Hid (Blk w0 gm 34 [.slice A nb c, .slice (some ⟨b2, o2, none⟩) k d, .slice (some ⟨b3, o3, none⟩) nl e, .int .i64 m.cache.hand, .int .i64 m.tags.count, .int .i64 m.tags.next, .int .i64 m.tags.round, .slice O no g, .int .i64 m.space]) := zq ((KQ.out.alloc _).ex he)
                have K1 : Hid (Blk w0 gl 64 [.bool true, .int .i64 xt, .int .i64 xp, .int .i64 (i : Int), .int .i64 f.rights, .bool false]) := zq (by rw [hgl]; exact (Blk.new wr _ _).ex he)
                have EW : Hid (Ex wr w0) := zq (((Ex.refl wr).alloc _).trans he)
                clear he
                rw [← hgl]
                clear hgl q0 q1 q2 q3 q4 q5 q6 q7 q8 jM k0 k1 k2 k3 k4 k5
                obtain ⟨q0, q1, q2, q3, q4, q5, q6, q7, q8⟩ := K0.out.c9
                obtain ⟨k0, k1, k2, k3, k4, k5⟩ := K1.out.c6
                have jM := K0.out.lt
                have jL := K1.out.lt
                go_wp2_with fail
                clear jL
                clear q0 q1 q2 q3 q4 q5 q6 q7 q8 jM k0 k1 k2 k3 k4 k5
                have FK9 : Hid (∀ w', Ex w0 w' → (w'.cell? ⟨gm, 0, none⟩ = some (.slice A nb c) ∧ w'.cell? ⟨gm, 1, none⟩ = some (.slice (some ⟨b2, o2, none⟩) k d) ∧ w'.cell? ⟨gl, 2, none⟩ = some (.int .i64 xp))) := zq (fun w' h => ⟨(K0.out.ex h).c9.1, (K0.out.ex h).c9.2.1, (K1.out.ex h).c6.2.2.1⟩)
                refine wp_region_held_drew (S := (fun w' => (w'.cell? ⟨gm, 0, none⟩ = some (.slice A nb c) ∧ w'.cell? ⟨gm, 1, none⟩ = some (.slice (some ⟨b2, o2, none⟩) k d) ∧ w'.cell? ⟨gl, 2, none⟩ = some (.int .i64 xp)))) (by kernel_rfl) ?r22_hS0 (fun hHeld => ?_)
                case r22_hS0 => exact FK9.out _ (Ex.refl _).drew
                refine tk 0 ?_; refine tk 1 ?_; refine tk 2 ?_; refine tk 3 ?_; refine tk 4 ?_
                refine wpAnyH_ready (rs := [5]) (by kernel_rfl) (by simp) ?_
                refine AllReadyH.cons (o := ?r22_o5) ?r22_ho5 (fun K hK => ?_) AllReadyH.nil
                case r22_ho5 => (conv => lhs; whnf; arg 1; whnf)
                refine step_call_gu rfl CEK.out _ _ rfl #[.int .i64 sp, .int .i64 xp] rfl (CK0.out _) ?_; rintro r wa ⟨rfl, hwa⟩; refine ⟨_, rfl, ?_⟩; have hxa := Ex.trans (Ex.refl _).drew hwa
                refine hK.out _ _ ?r22_hS5 (fun hHeld5 => ?_)
                case r22_hS5 => exact FK9.out _ hxa
                clear hK K hHeld
                try simp only [Act.put, List.setIfInBounds_toArray, List.set_cons_zero, List.set_cons_succ]
                refine wpAnyH_ready (rs := [6]) (by kernel_rfl) (by simp) ?_
                refine AllReadyH.cons (o := ?r22_o6) ?r22_ho6 (fun K hK => ?_) AllReadyH.nil
                case r22_ho6 => (conv => lhs; whnf; arg 1; whnf)
                refine step_call_gu rfl CEF.out _ _ rfl #[.agg #[.slice A nb c, .slice (some ⟨b2, o2, none⟩) k d], .agg #[.int .i64 kk.space, .int .i64 kk.page]] rfl (CF0.out _ (HF.out.ex ((HQ.out.trans EW.out).trans hxa))) ?_; rintro r w3 ⟨rfl, he⟩; refine ⟨_, rfl, ?_⟩; have hx3 := Ex.trans hxa he
                refine hK.out _ _ ?r22_hS6 (fun hHeld6 => ?_)
                case r22_hS6 => exact FK9.out _ hx3
                clear hK K hHeld5
                try simp only [Act.put, List.setIfInBounds_toArray, List.set_cons_zero, List.set_cons_succ]
                refine tk 7 ?_
                refine wpAnyH_done (by kernel_rfl) ?_ _
                have HX3 := zq hx3
                clear hx3 hxa he hwa
                go_wp2_with fail
                have FK10 : Hid (∀ w', Ex w3 w' → (w'.cell? ⟨gl, 3, none⟩ = some (.int .i64 (i : Int)) ∧ w'.cell? ⟨gl, 4, none⟩ = some (.int .i64 f.rights) ∧ w'.cell? ⟨gm, 1, none⟩ = some (.slice (some ⟨b2, o2, none⟩) k d) ∧ w'.cell? ⟨b2, o2 + i * 5 + 3, none⟩ = some (.int .i64 f.rights))) := zq (fun w' h => ⟨(K1.out.ex (HX3.out.trans h)).c6.2.2.2.1, (K1.out.ex (HX3.out.trans h)).c6.2.2.2.2.1, (K0.out.ex (HX3.out.trans h)).c9.2.1, (((EW.out.trans HX3.out).trans h).cell HB2.out).trans Z3.out⟩)
                refine wp_region_held_drew (S := (fun w' => (w'.cell? ⟨gl, 3, none⟩ = some (.int .i64 (i : Int)) ∧ w'.cell? ⟨gl, 4, none⟩ = some (.int .i64 f.rights) ∧ w'.cell? ⟨gm, 1, none⟩ = some (.slice (some ⟨b2, o2, none⟩) k d) ∧ w'.cell? ⟨b2, o2 + i * 5 + 3, none⟩ = some (.int .i64 f.rights)))) (by kernel_rfl) ?r23_hS0 (fun hHeld => ?_)
                case r23_hS0 => exact FK10.out _ (Ex.refl _).drew
                refine tk 0 ?_; refine tk 1 ?_; refine tk 2 ?_; refine tk 3 ?_; refine tk 4 ?_; refine tk 5 ?_; refine tk 6 ?_; refine tk 7 ?_; refine tk 8 ?_; refine tk 9 ?_; refine tk 10 ?_; refine tk 11 ?_; refine tk 12 ?_; refine tk 13 ?_
                refine tk 14 ?_; refine tk 15 ?_; refine tk 16 ?_; refine tk 17 ?_; refine tk 18 ?_; refine tk 19 ?_
                refine wpAnyH_done (by kernel_rfl) ?_ _
                go_wp2
                go_roundw
                case rel => exact ⟨q + 1, by omega, by go_num, ((HQ4.out.trans EW.out).trans HX3.out).drew, HFF.out⟩
                case measure => simp [intOf]; omega
        · obtain rfl : q = nl := by omega
          obtain ⟨q0, q1, q2, q3, q4, q5, q6, q7, q8⟩ := KQ.out.c9
          have jM := KQ.out.lt
          go_wp2
          go_ret
          exact ⟨ret_bool (machV_yes ⟨HOK.out, HFA.out, fun i x h => HALL.out i x (by have := getElem?_lt h; have := HNL.out; omega) h⟩).symm, HQ.out⟩
end Go.Proofs.YtbdlpbladpppjaaGreatDoor
