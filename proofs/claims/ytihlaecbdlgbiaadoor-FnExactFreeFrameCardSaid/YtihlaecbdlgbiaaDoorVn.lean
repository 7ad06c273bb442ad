/- A set of numbers in a map of the call's own, counted; the lengths of such maps. -/
import Derived.Test.YtihlaecbdlgbiaaDoorVi
import Derived.Maps.OwnSet
namespace Go.Proofs.YtihlaecbdlgbiaaDoor
open Go.ChangeShapes Go.WideShapes Go.ChangeAt Go.RowKit
open Rec (sz cs)
set_option linter.unusedVariables false
set_option maxRecDepth 100000

/-- How many entries a map's block has. -/
def mapN (w : World) (b : Nat) : Nat := match w.heap[b]? with | some (.map es _) => es.size | _ => 0
theorem mapN_own {P : Program} {k : TypeId} {R : Value → Option (DataW Unit × List MemPlace)} {w : World} {b n : Nat} {D : DataW Unit} (h : w.ownsMap P k R b n D) : mapN w b = Maps.size D := by
  obtain ⟨es, clock, hb, F, hs, hD⟩ := h
  unfold mapN
  rw [hb, hD]
  simp [Maps.size, length_sorted]

/-- A map of the call's own that holds true just at the numbers of S (no number twice in S). -/
def IntSet (w : World) (b n : Nat) (S : List Int) : Prop := ∃ D : DataW Unit, w.ownsMap Tryd.prog 3 (plainElem Tryd.prog 4) b n D ∧ Maps.IsMap D ∧ Maps.size D = S.length ∧ ∀ x : Int, D.atKey (.int .i64 x) (.lit (.bool false)) = .lit (.bool (decide (x ∈ S))) ∧ Maps.has D (.int .i64 x) = decide (x ∈ S)
theorem IntSet.made (w : World) : IntSet (w.alloc (.map #[] 0)) w.heap.size 0 [] :=
  ⟨_, World.ownsMap_made w _ _ _, Maps.isMap_empty, rfl, fun x => by simp [DataW.atKey, Maps.has]⟩
theorem IntSet.kept {w w' : World} {b n : Nat} {S : List Int} {row : Option Nat} (h : IntSet w b n S) (hg : w.grownBy w' row) (hne : some b ≠ row) : IntSet w' b n S := by
  obtain ⟨D, h1, h2⟩ := h
  exact ⟨D, h1.kept hg hne, h2⟩
theorem IntSet.ex {w w' : World} {b n : Nat} {S : List Int} (h : IntSet w b n S) (k : Ex w w') : IntSet w' b n S :=
  h.kept (grown_ex (grown_refl w none) k) (by simp)
theorem IntSet.lt {w : World} {b n : Nat} {S : List Int} (h : IntSet w b n S) : b < w.heap.size := by
  obtain ⟨D, h1, _⟩ := h
  exact h1.lt
theorem IntSet.num {w : World} {b n : Nat} {S : List Int} (h : IntSet w b n S) : mapN w b = S.length := by
  obtain ⟨D, h1, _, hz, _⟩ := h
  rw [mapN_own h1, hz]
theorem IntSet.look {w : World} {b n : Nat} {S : List Int} (h : IntSet w b n S) (x : Int) (hx : (Lit.int .i64 x).wf = true) :
    (Instr.lookup 111 (.map (some b)) (.int .i64 x) false).run Tryd.prog w = .ok (.bool (decide (x ∈ S))) w := by
  obtain ⟨D, h1, _, _, h2⟩ := h
  obtain ⟨v, ps, hrun, hv⟩ := h1.lookup kInt Tryd.underlying111 (z := .bool false) (by kernel_rfl) (plainElem_bool Tryd.underlying4 false) (Maps.keyOf_int_mk Tryd.underlying3 hx)
  rw [(h2 x).1] at hv
  rw [hrun]
  unfold plainElem at hv
  rw [Tryd.underlying4] at hv
  cases v <;> simp at hv
  rw [hv.1]
theorem IntSet.put {w : World} {b n : Nat} {S : List Int} (h : IntSet w b n S) (hn : n < maxLen) (x : Int) (hns : ¬ x ∈ S) (hx : (Lit.int .i64 x).wf = true) :
    ∃ w', (Instr.mapUpdate 111 (.map (some b)) (.int .i64 x) (.bool true)).run Tryd.prog w = .ok () w' ∧ IntSet w' b (n + 1) (x :: S) ∧ w.grownBy w' (some b) := by
  obtain ⟨D, h1, hm, hz, h2⟩ := h
  obtain ⟨w', hrun, h3, h4⟩ := h1.update kInt Tryd.underlying111 hn (Maps.keyOf_int_mk Tryd.underlying3 hx) (plainElem_bool Tryd.underlying4 true)
  have hkl : WideAt.IsKeyLit (.int .i64 x) := by first | trivial | (simp [WideAt.IsKeyLit]) | exact True.intro
  refine ⟨w', hrun, ⟨_, h3, hm.put _ _, ?_, fun y => ?_⟩, h4⟩
  · rw [Maps.size_put (h1.tidy kInt), (h2 x).2, hz]
    simp [hns]
  · by_cases e : y = x
    · subst e
      rw [Maps.atKey_put_same hm hkl, Maps.has_put_same hm hkl]
      simp
    · have hl : (Lit.int .i64 y) ≠ .int .i64 x := by intro h; injection h with _ h; exact e h
      rw [Maps.atKey_put_other hl, Maps.has_put_other hl, (h2 y).1, (h2 y).2]
      simp [e]

theorem wpList_put_set (w : World) {ops : Array Oper} {rest : List Oper} {o : Oper} {a : Act} {Q : Exit → Act → World → Prop}
    (hg : o.guard = none) (m x v : Operand) (hop : o.op = Op.mapUpdate 111 m x v) (b n : Nat) (S : List Int) (hm : a.eval m = .map (some b)) (h : IntSet w b n S) (hn : n < maxLen) (k : Int) (hns : ¬ k ∈ S) (hx : a.eval x = .int .i64 k) (hv : a.eval v = .bool true)
    (hk : (Lit.int .i64 k).wf = true) (hK : ∀ w', IntSet w' b (n + 1) (k :: S) → w.grownBy w' (some b) → wpList Tryd.prog ops Q rest (a.put o.dst undef) w') : wpList Tryd.prog ops Q (o :: rest) a w := by
  refine wpList_plain hg fun K' hK' => ?_
  obtain ⟨w', hrun, r1, r2⟩ := h.put hn k hns hk
  unfold Oper.wp
  simp [execOp, hop, hm, hx, hv, hrun, Result.andThen]
  exact hK' _ _ (hK w' r1 r2)
theorem wpList_len_set {w : World} {ops : Array Oper} {rest : List Oper} {o : Oper} {a : Act} {Q : Exit → Act → World → Prop} (hg : o.guard = none) (m : Operand) (hop : o.op = Op.call { callee := Callee.builtin Builtin.len, args := #[m], argTypes := #[111] })
    (b n : Nat) (S : List Int) (hm : a.eval m = .map (some b)) (h : IntSet w b n S) (hK : wpList Tryd.prog ops Q rest (a.put o.dst (.int .i64 S.length)) w) : wpList Tryd.prog ops Q (o :: rest) a w := by
  obtain ⟨D, h1, _, hz, _⟩ := h
  exact wpList_len_own _ hg m _ hop _ _ Tryd.underlying111 _ b n D hm h1 (by rw [hz]; exact hK)
theorem wpList_len_keys {w : World} {ops : Array Oper} {rest : List Oper} {o : Oper} {a : Act} {Q : Exit → Act → World → Prop} (hg : o.guard = none) (m : Operand) (hop : o.op = Op.call { callee := Callee.builtin Builtin.len, args := #[m], argTypes := #[109] })
    (b n : Nat) (S : List KeyD) (hm : a.eval m = .map (some b)) (h : HasKeys w b n S) (hK : wpList Tryd.prog ops Q rest (a.put o.dst (.int .i64 S.length)) w) : wpList Tryd.prog ops Q (o :: rest) a w := by
  obtain ⟨D, h1, _, hz, _⟩ := h
  exact wpList_len_own _ hg m _ hop _ _ Tryd.underlying109 _ b n D hm h1 (by rw [hz]; exact hK)

/-- The numbers that the walk has met: those of the buckets before, and of this one so far. -/
def MetUp (n : Nat) (ls : List (List Nat)) (pre : List Nat) (S : List Int) : Prop := S.Nodup ∧ (∀ x ∈ S, 0 ≤ x ∧ x < (n : Int)) ∧ S.length = sumL ls + pre.length ∧ ∀ x ∈ S, (∃ i ∈ pre, x = (i : Int)) ∨ ∃ l ∈ ls, ∃ i ∈ l, x = (i : Int)
theorem MetUp.zero (n : Nat) : MetUp n [] [] [] := ⟨List.nodup_nil, (by intro x h; cases h), rfl, (by intro x h; cases h)⟩
theorem MetUp.step {n : Nat} {ls : List (List Nat)} {pre : List Nat} {S : List Int} (h : MetUp n ls pre S) {i : Nat} (hi : i < n) (hs : ¬ (i : Int) ∈ S) : MetUp n ls (pre ++ [i]) ((i : Int) :: S) := by
  obtain ⟨h1, h2, h3, h4⟩ := h
  refine ⟨List.nodup_cons.2 ⟨hs, h1⟩, fun x hx => ?_, by simp; omega, fun x hx => ?_⟩
  · rcases List.mem_cons.1 hx with rfl | hx
    · omega
    · exact h2 x hx
  · rcases List.mem_cons.1 hx with rfl | hx
    · exact .inl ⟨i, by simp, rfl⟩
    · rcases h4 x hx with ⟨j, hj, e⟩ | h5
      · exact .inl ⟨j, by simp [hj], e⟩
      · exact .inr h5
theorem MetUp.next {n : Nat} {ls : List (List Nat)} {pre : List Nat} {S : List Int} (h : MetUp n ls pre S) : MetUp n (ls ++ [pre]) [] S := by
  obtain ⟨h1, h2, h3, h4⟩ := h
  refine ⟨h1, h2, by rw [sumL_succ]; simpa using h3, fun x hx => ?_⟩
  rcases h4 x hx with h5 | ⟨l, hl, h5⟩
  · exact .inr ⟨pre, by simp, h5⟩
  · exact .inr ⟨l, by simp [hl], h5⟩
theorem few_ints : ∀ (n : Nat) (S : List Int), S.Nodup → (∀ x ∈ S, 0 ≤ x ∧ x < (n : Int)) → S.length ≤ n := by
  intro n S h1 h2
  have h3 : (S.map Int.toNat).Nodup := by
    refine List.pairwise_map.2 (List.Pairwise.imp_of_mem ?_ h1)
    intro a b ha hb hne e
    have := h2 a ha
    have := h2 b hb
    omega
  have h4 := nodup_few n (S.map Int.toNat) h3 (fun j hj => by
    obtain ⟨x, hx, rfl⟩ := List.mem_map.1 hj
    have := h2 x hx
    omega)
  simpa using h4
theorem MetUp.few {n : Nat} {ls : List (List Nat)} {pre : List Nat} {S : List Int} (h : MetUp n ls pre S) : S.length ≤ n := few_ints n S h.1 h.2.1
/-- The walk has come to a number that it met before. -/
theorem met_again {t : TableD} {b i n : Nat} {a : Int} {ls : List (List Nat)} {pre : List Nat} {S : List Int} {f : FrameD} (h : MetUp n ls pre S) (hb : Buckets t b ls) (hbb : b < t.buckets.length) (ha : t.buckets[b]? = some a) (hp : Trail t.frames a pre (i : Int)) (hf : t.frames[i]? = some f) (hs : (i : Int) ∈ S) : ¬ TableOk t := by
  rcases h.2.2.2 _ hs with ⟨j, hj, e⟩ | ⟨l, hl, j, hj, e⟩
  · have e2 : i = j := by omega
    subst e2
    exact not_nochain ha (hp.again hj)
  · have e2 : i = j := by omega
    subst e2
    obtain ⟨b', hb', e3⟩ := List.getElem_of_mem hl
    have hb2 : b' < b := by rw [← hb.1]; exact hb'
    obtain ⟨a', ha'⟩ : ∃ a', t.buckets[b']? = some a' := ⟨_, List.getElem?_eq_getElem (by omega)⟩
    have h5 := (hb.2 b' a' l hb2 ha' (by rw [List.getElem?_eq_getElem hb', e3])).2 i f hj hf
    exact not_hash_at ha hp hf (by rw [h5]; omega)
/-- A whole chain was walked. -/
theorem Trail.done {t : TableD} {b : Nat} {a : Int} {ls : List (List Nat)} {pre : List Nat} (hb : Buckets t b ls) (ha : t.buckets[b]? = some a) (hp : Trail t.frames a pre (-1)) (hh : ∀ (i : Nat) (f : FrameD), i ∈ pre → t.frames[i]? = some f → hashK f.key t.buckets.length = b) : Buckets t (b + 1) (ls ++ [pre]) := hb.succ ha hp.ends hh
end Go.Proofs.YtihlaecbdlgbiaaDoor
