/- TagsValid: the walks of the program's and the reference's. -/
import Derived.Test.YtihlaecbdlgbiaaDoorTm
namespace Go.Proofs.YtihlaecbdlgbiaaDoor
open Go.ChangeShapes Go.WideShapes Go.ChangeAt Go.RowKit
open Rec (sz cs)
set_option linter.unusedVariables false
set_option maxRecDepth 100000

theorem wpList_put_int (w : World) {ops : Array Oper} {rest : List Oper} {o : Oper} {a : Act} {Q : Exit → Act → World → Prop}
    (hg : o.guard = none) (m x v : Operand) (hop : o.op = Op.mapUpdate 111 m x v) (b n : Nat) (S : List Int) (hm : a.eval m = .map (some b)) (h : HasInts w b n S) (hn : n < maxLen) (k : Int) (hx : a.eval x = .int .i64 k) (hv : a.eval v = .bool true)
    (hk : (Lit.int .i64 k).wf = true) (hK : ∀ w', HasInts w' b (n + 1) (k :: S) → w.grownBy w' (some b) → wpList Tryd.prog ops Q rest (a.put o.dst undef) w') : wpList Tryd.prog ops Q (o :: rest) a w := by
  refine wpList_plain hg fun K' hK' => ?_
  obtain ⟨w', hrun, r1, r2⟩ := h.put hn k hk
  unfold Oper.wp
  simp [execOp, hop, hm, hx, hv, hrun, Result.andThen]
  exact hK' _ _ (hK w' r1 r2)

/-- The tag before place k, or -1. -/
def lastTag (xs : List OwnD) (k : Nat) : Int := if k = 0 then -1 else (xs.getD (k - 1) ⟨0, 0⟩).tag
theorem lastTag_succ {xs : List OwnD} {k : Nat} {x : OwnD} (h : xs[k]? = some x) : lastTag xs (k + 1) = x.tag := by
  unfold lastTag
  rw [if_neg (by omega), Nat.add_sub_cancel, own_getD h]
theorem lastTag_le {t : TagsD} {k : Nat} (h : OwnsUp t k) (hk : k ≤ t.owns.length) {j : Nat} {y : OwnD} (hj : j < k) (hy : t.owns[j]? = some y) : y.tag ≤ lastTag t.owns k := by
  obtain ⟨z, hz⟩ : ∃ z, t.owns[k - 1]? = some z := ⟨_, List.getElem?_eq_getElem (by omega)⟩
  have e : lastTag t.owns k = z.tag := by
    have := lastTag_succ hz
    rwa [show k - 1 + 1 = k from by omega] at this
  rw [e]
  by_cases hjk : j = k - 1
  · subst hjk
    rw [hz] at hy
    injection hy with hy
    rw [hy]; exact Int.le_refl _
  · have := ((h (k - 1) z (by omega) hz).2 j y (by omega) hy).1
    omega
theorem lastTag_or (xs : List OwnD) {k : Nat} (hk : k ≤ xs.length) : (k = 0 ∧ lastTag xs k = -1) ∨ ∃ y, 0 < k ∧ xs[k - 1]? = some y ∧ lastTag xs k = y.tag := by
  by_cases h : k = 0
  · exact .inl ⟨h, if_pos h⟩
  · obtain ⟨z, hz⟩ : ∃ z, xs[k - 1]? = some z := ⟨_, List.getElem?_eq_getElem (by omega)⟩
    refine .inr ⟨z, by omega, hz, ?_⟩
    have := lastTag_succ hz
    rwa [show k - 1 + 1 = k from by omega] at this

/-- The spaces of the first k owners. -/
def spacesUp (xs : List OwnD) (k : Nat) : List Int := ((xs.take k).map (·.space)).reverse
theorem spacesUp_succ {xs : List OwnD} {k : Nat} {x : OwnD} (h : xs[k]? = some x) : spacesUp xs (k + 1) = x.space :: spacesUp xs k := by
  unfold spacesUp; rw [take_succ_of h]; simp
theorem mem_spacesUp {xs : List OwnD} {k : Nat} {s : Int} : s ∈ spacesUp xs k ↔ ∃ j y, j < k ∧ xs[j]? = some y ∧ y.space = s := by
  unfold spacesUp
  simp only [List.mem_reverse, List.mem_map]
  constructor
  · rintro ⟨y, hy, rfl⟩
    obtain ⟨j, hj, e⟩ := List.getElem_of_mem hy
    rw [List.length_take] at hj
    refine ⟨j, y, by omega, ?_, rfl⟩
    have : (xs.take k)[j]? = some y := by rw [List.getElem?_eq_getElem (by rw [List.length_take]; omega), e]
    rw [List.getElem?_take] at this
    split at this
    · exact this
    · cases this
  · rintro ⟨j, y, hj, hy, rfl⟩
    refine ⟨y, ?_, rfl⟩
    apply List.mem_of_getElem? (i := j)
    rw [List.getElem?_take, if_pos hj, hy]

theorem own_step {t : TagsD} {k : Nat} {x : OwnD} (h : OwnsUp t k) (hx : t.owns[k]? = some x) (h1 : lastTag t.owns k < x.tag) (h2 : x.tag < t.next) (h3 : inB x.space 16 = true) (h4 : decide (x.space ∈ spacesUp t.owns k) = false) : OwnsUp t (k + 1) := by
  have hk := getElem?_lt hx
  have h3' := inB_true.1 h3
  have h0 : -1 ≤ lastTag t.owns k := by
    rcases lastTag_or t.owns (k := k) (by omega) with ⟨_, e⟩ | ⟨y, hp, hy, e⟩
    · omega
    · have := (h (k - 1) y (by omega) hy).1.1
      omega
  refine ownsUp_succ h hx ⟨by omega, h2, h3'.1, h3'.2⟩ fun j y hj hy => ⟨by have := lastTag_le h (by omega) hj hy; omega, fun e => ?_⟩
  have : x.space ∈ spacesUp t.owns k := mem_spacesUp.2 ⟨j, y, hj, hy, e⟩
  simp [this] at h4

theorem own_bad_last {t : TagsD} {k : Nat} {x : OwnD} (hx : t.owns[k]? = some x) (h1 : x.tag ≤ lastTag t.owns k) : tagsV t = false :=
  tagsV_bad hx fun h => by
    have hk := getElem?_lt hx
    rcases lastTag_or t.owns (k := k) (by omega) with ⟨_, e⟩ | ⟨y, hp, hy, e⟩
    · have := h.1.1; omega
    · have := (h.2 (k - 1) y (by omega) hy).1; omega
theorem own_bad_next {t : TagsD} {k : Nat} {x : OwnD} (hx : t.owns[k]? = some x) (h1 : t.next ≤ x.tag) : tagsV t = false :=
  tagsV_bad hx fun h => by have := h.1.2.1; omega
theorem own_bad_space {t : TagsD} {k : Nat} {x : OwnD} (hx : t.owns[k]? = some x) (h1 : inB x.space 16 = false) : tagsV t = false :=
  tagsV_bad hx fun h => by have := inB_false.1 h1; exact this ⟨h.1.2.2.1, h.1.2.2.2⟩
theorem own_bad_twice {t : TagsD} {k : Nat} {x : OwnD} (hx : t.owns[k]? = some x) (h1 : decide (x.space ∈ spacesUp t.owns k) = true) : tagsV t = false :=
  tagsV_bad hx fun h => by
    obtain ⟨j, y, hj, hy, e⟩ := mem_spacesUp.1 (of_decide_eq_true h1)
    exact (h.2 j y hj hy).2 e

set_option maxHeartbeats 2000000 in
theorem tagsValidI_c (t : TagsD) (A : Option Addr) (c : Nat) (w : World) (hx : Rd w A t.owns) (hn : t.owns.length ≤ 1048576) (hc : t.owns.length ≤ c) :
    Calls Tryd.prog 31 #[.agg #[.int .i64 t.count, .int .i64 t.next, .int .i64 t.round, .slice A t.owns.length c]] w fun r w' => r = .returned (.bool (tagsV t)) ∧ Ex w w' := by
  have B0 := Lib.hid (@tagsV_bad_head t)
  have B1 := Lib.hid (fun k x => @own_bad_last t k x)
  have B2 := Lib.hid (fun k x => @own_bad_next t k x)
  have B3 := Lib.hid (fun k x => @own_bad_space t k x)
  have B4 := Lib.hid (fun k x => @own_bad_twice t k x)
  have B5 := Lib.hid (@tagsV_end t)
  have B6 := Lib.hid (fun k x => @own_step t k x)
  have B7 := Lib.hid (ownsUp_zero t)
  obtain ⟨cnt, nxt, rnd, xs⟩ := t
  unfold TagsHead at B0 B5
  simp only at B0 B1 B2 B3 B4 B5 B6 hx hn hc ⊢
  generalize hOK : OwnsUp ⟨cnt, nxt, rnd, xs⟩ = OK at *
  clear hOK
  generalize tagsV ⟨cnt, nxt, rnd, xs⟩ = res at *
  obtain ⟨n, hn1⟩ : ∃ n, n = xs.length := ⟨_, rfl⟩
  have HN := Lib.hid hn1
  rw [← hn1] at B5 hn hc ⊢
  have HX := Lib.hid hx
  clear hn1 hx
  by_cases g1 : cnt < 1
  · obtain rfl : res = false := B0.out (by omega)
    go_enter Tryd.func31, Tryd.ntmps31
    go_wp2
    go_ret
    exact ⟨rfl, (Ex.refl _).alloc _⟩
  by_cases g2 : 8 < cnt
  · have g1' : 1 ≤ cnt := by omega
    obtain rfl : res = false := B0.out (by omega)
    go_enter Tryd.func31, Tryd.ntmps31
    go_wp2
    go_ret
    exact ⟨rfl, (Ex.refl _).alloc _⟩
  have g1' : 1 ≤ cnt := by omega
  have g2' : cnt ≤ 8 := by omega
  by_cases g3 : nxt < 0
  · obtain rfl : res = false := B0.out (by omega)
    go_enter Tryd.func31, Tryd.ntmps31
    go_wp2
    go_ret
    exact ⟨rfl, (Ex.refl _).alloc _⟩
  have g3' : 0 ≤ nxt := by omega
  by_cases g4 : cnt < nxt
  · obtain rfl : res = false := B0.out (by omega)
    go_enter Tryd.func31, Tryd.ntmps31
    go_wp2
    go_ret
    exact ⟨rfl, (Ex.refl _).alloc _⟩
  have g4' : nxt ≤ cnt := by omega
  by_cases g5 : rnd < 0
  · obtain rfl : res = false := B0.out (by omega)
    go_enter Tryd.func31, Tryd.ntmps31
    go_wp2
    go_ret
    exact ⟨rfl, (Ex.refl _).alloc _⟩
  have g5' : 0 ≤ rnd := by omega
  by_cases g6 : 1000000 < rnd
  · obtain rfl : res = false := B0.out (by omega)
    go_enter Tryd.func31, Tryd.ntmps31
    go_wp2
    go_ret
    exact ⟨rfl, (Ex.refl _).alloc _⟩
  have g6' : rnd ≤ 1000000 := by omega
  have HS : Hid (1 ≤ cnt ∧ cnt ≤ 8 ∧ 0 ≤ nxt ∧ nxt ≤ cnt ∧ 0 ≤ rnd ∧ rnd ≤ 1000000) := Lib.hid (by omega)
  have d1 : decide (cnt < 1) = false := by simp; omega
  have d2 : decide (8 < cnt) = false := by simp; omega
  have d3 : decide (nxt < 0) = false := by simp; omega
  have d4 : decide (cnt < nxt) = false := by simp; omega
  have d5 : decide (rnd < 0) = false := by simp; omega
  have d6 : decide (1000000 < rnd) = false := by simp; omega
  clear g1 g2 g3 g4 g5 g6 B0 g1' g2' g3' g4' g5' g6'
  have hmm := @run_makeMap Tryd.prog
  go_enter Tryd.func31, Tryd.ntmps31
  go_wp2
  clear hmm
  clear d1 d2 d3 d4 d5 d6
  obtain ⟨w0, hw0⟩ : ∃ w0 : World, w0 = (w.alloc (.cells #[.int .i64 cnt, .int .i64 nxt, .int .i64 rnd, .slice A n c] 44)).alloc (.map #[] 0) := ⟨_, rfl⟩
  obtain ⟨gb, hgb⟩ : ∃ gb : Nat, gb = w.heap.size := ⟨_, rfl⟩
  obtain ⟨gm, hgm⟩ : ∃ gm : Nat, gm = w.heap.size + 1 := ⟨_, rfl⟩
  have K0 : Hid (Blk w0 gb 44 [.int .i64 cnt, .int .i64 nxt, .int .i64 rnd, .slice A n c]) := Lib.hid (by rw [hw0, hgb]; exact (Blk.new w _ _).alloc _)
  have E0 : Hid (Ex w w0) := Lib.hid (by rw [hw0]; exact ((Ex.refl w).alloc _).alloc _)
  have M0 : Hid (HasInts w0 gm 0 []) := Lib.hid (by
    have := HasInts.made (w.alloc (.cells #[.int .i64 cnt, .int .i64 nxt, .int .i64 rnd, .slice A n c] 44))
    rw [hw0, hgm]; simpa using this)
  have hne : Hid (gb ≠ gm) := Lib.hid (by omega)
  have hge : Hid (w.heap.size ≤ gm) := Lib.hid (by omega)
  rw [← hw0, ← hgm, ← hgb]
  clear hw0 hgm hgb
  go_loopw [41, 4] (fun i l wr => ∃ k : Nat, k ≤ n ∧ i = .int .i64 k ∧ l = .int .i64 (lastTag xs k) ∧ Ex w wr ∧ Blk wr gb 44 [.int .i64 cnt, .int .i64 nxt, .int .i64 rnd, .slice A n c] ∧ HasInts wr gm k (spacesUp xs k) ∧ OK k) (fun i _ _ => n - (intOf i).toNat)
  case atStart => exact ⟨0, Nat.zero_le _, rfl, rfl, E0.out, K0.out, M0.out, B7.out⟩
  case round =>
    obtain ⟨k, hk, rfl, rfl, hbel, hkb, hmap, hok⟩ := hrel
    have HB := Lib.hid hbel
    have KB := Lib.hid hkb
    have MB := Lib.hid hmap
    have HOK := Lib.hid hok
    clear hbel hkb hmap hok
    obtain ⟨q0, q1, q2, q3⟩ := KB.out.c4
    have lb := KB.out.lt
    by_cases hlt : k < n
    · obtain ⟨b1, o1, x, rfl, hb1, hxk, h0, h1⟩ := Rd.own (HX.out.ex HB.out) (k := k) (by have := HN.out; omega)
      have HXK := Lib.hid hxk
      clear hxk
      have HLS := Lib.hid (lastTag_succ HXK.out)
      have HSS := Lib.hid (spacesUp_succ HXK.out)
      have B1k := Lib.hid (B1.out k x HXK.out)
      have B4k := Lib.hid (B4.out k x HXK.out)
      have B6k := Lib.hid (B6.out k x HOK.out HXK.out)
      generalize lastTag xs k = la at *
      generalize spacesUp xs k = sp at *
      by_cases t1 : x.tag ≤ la
      · obtain rfl : res = false := B1k.out t1
        go_wp2
        go_ret
        exact ⟨rfl, HB.out.alloc _⟩
      have t1' : ¬ x.tag ≤ la := t1
      by_cases t2 : nxt ≤ x.tag
      · obtain rfl : res = false := B2.out k x HXK.out t2
        go_wp2
        go_ret
        exact ⟨rfl, HB.out.alloc _⟩
      have t2' : ¬ nxt ≤ x.tag := t2
      cases t3 : inB x.space 16
      · obtain rfl : res = false := B3.out k x HXK.out t3
        go_wp2_with (go_at_call 41; refine (within_c _ _ _).mono ?_; rintro r w' ⟨rfl, rfl⟩)
        go_ret
        exact ⟨rfl, HB.out.alloc _⟩
      have hwf : (Lit.int .i64 x.space).wf = true := WalkArith.wf_i64 (by have := inB_true.1 t3; omega)
      have HWF := Lib.hid hwf
      clear hwf
      obtain ⟨wz, hwz⟩ : ∃ wz : World, wz = wr.alloc (.cells #[.int .i64 x.space, .int .i64 x.tag] 102) := ⟨_, rfl⟩
      have hlk := (MB.out.ex ((Ex.refl wr).alloc (.cells #[.int .i64 x.space, .int .i64 x.tag] 102))).look x.space HWF.out
      cases t4 : decide (x.space ∈ sp)
      rotate_left
      · obtain rfl : res = false := B4k.out t4
        rw [t4] at hlk
        go_wp2_with (go_at_call 41; refine (within_c _ _ _).mono ?_; rintro r w' ⟨rfl, rfl⟩)
        go_ret
        exact ⟨rfl, HB.out.alloc _⟩
      · rw [t4] at hlk
        have HOK2 := Lib.hid (B6k.out (by omega) (by omega) t3 t4)
        clear hwz
        have MZ := Lib.hid (MB.out.ex ((Ex.refl wr).alloc (.cells #[.int .i64 x.space, .int .i64 x.tag] 102)))
        go_wp2_with (first | (go_at_call 41; refine (within_c _ _ _).mono ?_; rintro r w' ⟨rfl, rfl⟩) | (at_mapUpdate; go_must (refine wpList_put_int _ rfl _ _ _ rfl gm k sp rfl MZ.out (by simp only [maxLen]; omega) x.space rfl rfl HWF.out ?_); intro w3 hs3 hg3))
        go_roundw
        case rel => exact ⟨k + 1, by omega, by go_num, by rw [HLS.out], (HB.out.alloc _).grown hg3 (fun g hg => by injection hg with hg; have := hge.out; omega), (KB.out.alloc _).grown hg3 (by intro e; injection e with e; exact hne.out e), by rw [HSS.out]; exact hs3, HOK2.out⟩
        case measure => simp [intOf]; omega
    · obtain rfl : k = n := by omega
      obtain rfl : res = true := B5.out HS.out HOK.out
      go_wp2
      go_ret
      exact ⟨rfl, HB.out⟩
end Go.Proofs.YtihlaecbdlgbiaaDoor
