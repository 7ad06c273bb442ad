/- The reference's TagsValid: the walk. -/
import Derived.Test.YtihlaecbdlgbiaaDoorTv
namespace Go.Proofs.YtihlaecbdlgbiaaDoor
open Go.ChangeShapes Go.WideShapes Go.ChangeAt Go.RowKit
open Rec (sz cs)
set_option linter.unusedVariables false
set_option maxRecDepth 100000

theorem l1Space_q (n : Int) (w : World) : Calls Tryd.prog 53 #[.int .i64 n] w fun r w' => r = .returned (.bool (inB n 16)) ∧ w' = w :=
  (l1Space_c n w).mono fun _ _ ⟨h1, h2⟩ => ⟨h1, h2.symm⟩

theorem tagsV_bad_len {t : TagsD} (h : t.next < t.owns.length) : tagsV t = false := by
  cases h2 : tagsV t
  · rfl
  · have := (tagsV_iff t).1 h2
    have h3 := ownsUp_len this.2 this.1.2.2.1
    omega

/-- The first conditions on the owner at k. -/
def Here (nxt : Int) (xs : List OwnD) (k : Nat) (x : OwnD) : Prop := lastTag xs k < x.tag ∧ 0 ≤ x.tag ∧ x.tag < nxt ∧ inB x.space 16 = true

theorem own_bad_neg {t : TagsD} {k : Nat} {x : OwnD} (hx : t.owns[k]? = some x) (h1 : x.tag < 0) : tagsV t = false :=
  tagsV_bad hx fun h => by have := h.1.1; omega
theorem own_bad_same {t : TagsD} {k j : Nat} {x y : OwnD} (hx : t.owns[k]? = some x) (hy : t.owns[j]? = some y) (hj : j < k) (h1 : y.space = x.space) : tagsV t = false :=
  tagsV_bad hx fun h => (h.2 j y hj hy).2 h1
theorem own_step' {t : TagsD} {k : Nat} {x : OwnD} (h : OwnsUp t k) (hx : t.owns[k]? = some x) (h0 : 0 ≤ x.tag) (h1 : lastTag t.owns k < x.tag) (h2 : x.tag < t.next) (h3 : inB x.space 16 = true) (h4 : ∀ j y, j < k → t.owns[j]? = some y → y.space ≠ x.space) : OwnsUp t (k + 1) := by
  have hk := getElem?_lt hx
  have h3' := inB_true.1 h3
  exact ownsUp_succ h hx ⟨h0, h2, h3'.1, h3'.2⟩ fun j y hj hy => ⟨by have := lastTag_le h (by omega) hj hy; omega, h4 j y hj hy⟩

set_option maxHeartbeats 4000000 in
theorem tagsValidS_c (t : TagsD) (A : Option Addr) (c : Nat) (w : World) (hx : Rd w A t.owns) (hn : t.owns.length ≤ 1048576) (hc : t.owns.length ≤ c) :
    Calls Tryd.prog 23 #[.agg #[.int .i64 t.count, .int .i64 t.next, .int .i64 t.round, .slice A t.owns.length c]] w fun r w' => r = .returned (.bool (tagsV t)) ∧ Ex w w' := by
  have B0 := Lib.hid (@tagsV_bad_head t)
  have B1 := Lib.hid (fun k x => @own_bad_last t k x)
  have B2 := Lib.hid (fun k x => @own_bad_next t k x)
  have B3 := Lib.hid (fun k x => @own_bad_space t k x)
  have B4 := Lib.hid (fun k j x y => @own_bad_same t k j x y)
  have B5 := Lib.hid (@tagsV_end t)
  have B6 := Lib.hid (fun k x => @own_step' t k x)
  have B7 := Lib.hid (ownsUp_zero t)
  have B8 := Lib.hid (@tagsV_bad_len t)
  have B9 := Lib.hid (fun k x => @own_bad_neg t k x)
  obtain ⟨cnt, nxt, rnd, xs⟩ := t
  unfold TagsHead at B0 B5
  simp only at B0 B1 B2 B3 B4 B5 B6 B8 B9 hx hn hc ⊢
  generalize hOK : OwnsUp ⟨cnt, nxt, rnd, xs⟩ = OK at *
  clear hOK
  generalize tagsV ⟨cnt, nxt, rnd, xs⟩ = res at *
  have HLO := Lib.hid (fun k (h : k ≤ xs.length) => lastTag_or xs (k := k) h)
  obtain ⟨n, hn1⟩ : ∃ n, n = xs.length := ⟨_, rfl⟩
  have HN := Lib.hid hn1
  rw [← hn1] at B5 B8 HLO hn hc ⊢
  have HX := Lib.hid hx
  clear hn1 hx
  by_cases g1 : cnt < 1
  · obtain rfl : res = false := B0.out (by omega)
    go_enter Tryd.func23, Tryd.ntmps23
    go_wp2
    go_ret
    exact ⟨rfl, (Ex.refl _).alloc _⟩
  by_cases g2 : 8 < cnt
  · have g1' : 1 ≤ cnt := by omega
    obtain rfl : res = false := B0.out (by omega)
    go_enter Tryd.func23, Tryd.ntmps23
    go_wp2
    go_ret
    exact ⟨rfl, (Ex.refl _).alloc _⟩
  have g1' : 1 ≤ cnt := by omega
  have g2' : cnt ≤ 8 := by omega
  by_cases g3 : nxt < 0
  · obtain rfl : res = false := B0.out (by omega)
    go_enter Tryd.func23, Tryd.ntmps23
    go_wp2
    go_ret
    exact ⟨rfl, (Ex.refl _).alloc _⟩
  have g3' : 0 ≤ nxt := by omega
  by_cases g4 : cnt < nxt
  · obtain rfl : res = false := B0.out (by omega)
    go_enter Tryd.func23, Tryd.ntmps23
    go_wp2
    go_ret
    exact ⟨rfl, (Ex.refl _).alloc _⟩
  have g4' : nxt ≤ cnt := by omega
  by_cases g5 : rnd < 0
  · obtain rfl : res = false := B0.out (by omega)
    go_enter Tryd.func23, Tryd.ntmps23
    go_wp2
    go_ret
    exact ⟨rfl, (Ex.refl _).alloc _⟩
  have g5' : 0 ≤ rnd := by omega
  by_cases g6 : 1000000 < rnd
  · obtain rfl : res = false := B0.out (by omega)
    go_enter Tryd.func23, Tryd.ntmps23
    go_wp2
    go_ret
    exact ⟨rfl, (Ex.refl _).alloc _⟩
  have g6' : rnd ≤ 1000000 := by omega
  by_cases g7 : nxt < n
  · obtain rfl : res = false := B8.out g7
    go_enter Tryd.func23, Tryd.ntmps23
    go_wp2
    go_ret
    exact ⟨rfl, (Ex.refl _).alloc _⟩
  have g7' : (n : Int) ≤ nxt := by omega
  have HS : Hid (1 ≤ cnt ∧ cnt ≤ 8 ∧ 0 ≤ nxt ∧ nxt ≤ cnt ∧ 0 ≤ rnd ∧ rnd ≤ 1000000) := Lib.hid (by omega)
  have d1 : decide (cnt < 1) = false := by simp; omega
  have d2 : decide (8 < cnt) = false := by simp; omega
  have d3 : decide (nxt < 0) = false := by simp; omega
  have d4 : decide (cnt < nxt) = false := by simp; omega
  have d5 : decide (rnd < 0) = false := by simp; omega
  have d6 : decide (1000000 < rnd) = false := by simp; omega
  have d7 : decide (nxt < (n : Int)) = false := by simp; omega
  clear g1 g2 g3 g4 g5 g6 g7 B0 g1' g2' g3' g4' g5' g6' g7' B8
  go_enter Tryd.func23, Tryd.ntmps23
  go_wp2
  clear d1 d2 d3 d4 d5 d6 d7
  obtain ⟨w0, hw0⟩ : ∃ w0 : World, w0 = w.alloc (.cells #[.int .i64 cnt, .int .i64 nxt, .int .i64 rnd, .slice A n c] 44) := ⟨_, rfl⟩
  obtain ⟨gb, hgb⟩ : ∃ gb : Nat, gb = w.heap.size := ⟨_, rfl⟩
  have K0 : Hid (Blk w0 gb 44 [.int .i64 cnt, .int .i64 nxt, .int .i64 rnd, .slice A n c]) := Lib.hid (by rw [hw0, hgb]; exact Blk.new w _ _)
  have E0 : Hid (Ex w w0) := Lib.hid (by rw [hw0]; exact (Ex.refl w).alloc _)
  rw [← hw0, ← hgb]
  clear hw0 hgb
  go_loopw [3] (fun i wr => ∃ k : Nat, k ≤ n ∧ i = .int .i64 k ∧ Ex w0 wr ∧ OK k) (fun i _ => n - (intOf i).toNat)
  case atStart => exact ⟨0, Nat.zero_le _, rfl, Ex.refl _, B7.out⟩
  case round =>
    obtain ⟨k, hk, rfl, hbel, hok⟩ := hrel
    have HB := Lib.hid hbel
    have HOK := Lib.hid hok
    have HKB := Lib.hid (K0.out.ex HB.out)
    clear hbel hok
    obtain ⟨q0, q1, q2, q3⟩ := HKB.out.c4
    have lb := HKB.out.lt
    by_cases hlt : k < n
    · obtain ⟨b1, o1, x, rfl, hb1, hxk, h0, h1⟩ := Rd.own ((HX.out.ex E0.out).ex HB.out) (k := k) (by have := HN.out; omega)
      have HXK := Lib.hid hxk
      clear hxk
      cases t3 : inB x.space 16
      · obtain rfl : res = false := B3.out k x HXK.out t3
        go_wp2
        go_quiet ((go_at_call 53; exact Calls.quiet_of_same (l1Space_q _ _)))
        go_wp2
        go_ret
        exact ⟨rfl, ((E0.out.trans HB.out).alloc _).drewN _⟩
      by_cases t1 : x.tag < 0
      · obtain rfl : res = false := B9.out k x HXK.out t1
        have t1b : decide (x.tag < 0) = true := by simp; omega
        go_wp2
        go_quiet ((go_at_call 53; exact Calls.quiet_of_same (l1Space_q _ _)))
        go_wp2
        go_ret
        exact ⟨rfl, ((E0.out.trans HB.out).alloc _).drewN _⟩
      have t1b : decide (x.tag < 0) = false := by simp; omega
      by_cases t2 : nxt ≤ x.tag
      · obtain rfl : res = false := B2.out k x HXK.out t2
        have t2b : decide (nxt ≤ x.tag) = true := by simp; omega
        go_wp2
        go_quiet ((go_at_call 53; exact Calls.quiet_of_same (l1Space_q _ _)))
        go_wp2
        go_ret
        exact ⟨rfl, ((E0.out.trans HB.out).alloc _).drewN _⟩
      have t2b : decide (nxt ≤ x.tag) = false := by simp; omega
      rcases HLO.out k (by omega) with ⟨hk0, hla⟩ | ⟨y, hk0, hy, hla⟩
      · subst hk0
        have HLT : Hid (lastTag xs 0 < x.tag) := Lib.hid (by omega)
        clear hla
        simp only [Nat.zero_mul, Nat.add_zero] at h0 h1
        go_wp2_with fail
        go_quiet ((go_at_call 53; exact Calls.quiet_of_same (l1Space_q _ _)))
        obtain ⟨w2, hw2⟩ : ∃ w2 : World, w2 = (wr.alloc (.cells #[.int .i64 x.space, .int .i64 x.tag] 102)).drewN nq := ⟨_, rfl⟩
        obtain ⟨gx, hgx⟩ : ∃ gx : Nat, gx = wr.heap.size := ⟨_, rfl⟩
        have HB2 : Hid (Ex wr w2) := Lib.hid (by rw [hw2]; exact ((Ex.refl wr).alloc _).drewN _)
        have KX : Hid (Blk w2 gx 102 [.int .i64 x.space, .int .i64 x.tag]) := Lib.hid (by rw [hw2, hgx]; exact (Blk.new wr _ _).drewN _)
        rw [← hw2, ← hgx]
        clear hw2 hgx
        have KB2 := Lib.hid (HKB.out.ex HB2.out)
        have HE2 : Hid (Ex w w2) := Lib.hid ((E0.out.trans HB.out).trans HB2.out)
        have HW2 : Hid (Ex w0 w2) := Lib.hid (HB.out.trans HB2.out)
        have HX2 : Hid (Rd w2 (some ⟨b1, o1, none⟩) xs) := Lib.hid (HX.out.ex HE2.out)
        have HC : Hid (∀ (j : Nat) (y : OwnD), j < 0 → xs[j]? = some y → y.space ≠ x.space) := Lib.hid (fun j y h => by omega)
        clear HB HB2 HKB
        go_wp2
        go_loopw [5] (fun j wi => ∃ m : Nat, m ≤ 0 ∧ j = .int .i64 m ∧ Ex w2 wi ∧ ∀ (j : Nat) (y : OwnD), j < m → xs[j]? = some y → y.space ≠ x.space) (fun j _ => 0 - (intOf j).toNat)
        case atStart => exact ⟨0, Nat.zero_le _, rfl, Ex.refl _, HC.out⟩
        case round =>
          obtain ⟨m, hm, rfl, hbi, hcl⟩ := hrel
          have HBI := Lib.hid hbi
          have HCL := Lib.hid hcl
          clear hbi hcl
          obtain ⟨p0, p1⟩ := (KX.out.ex HBI.out).c2
          have lx := (KX.out.ex HBI.out).lt
          obtain ⟨q0, q1, q2, q3⟩ := (KB2.out.ex HBI.out).c4
          have lb := (KB2.out.ex HBI.out).lt
          by_cases hlm : m < 0
          · omega
          · have hmk : m = 0 := by omega
            have HOK2 : Hid (OK (0 + 1)) := Lib.hid (B6.out 0 x HOK.out HXK.out (by omega) HLT.out (by omega) t3 (fun j y hj hy => HCL.out j y (by omega) hy))
            have HMK := Lib.hid hmk
            clear hmk
            go_wp2
            go_roundw
            case rel => exact ⟨0 + 1, by omega, by go_num, HW2.out.trans HBI.out, HOK2.out⟩
            case measure => simp [intOf]; omega
      · obtain ⟨k', rfl⟩ : ∃ k', k = k' + 1 := ⟨k - 1, by omega⟩
        have hkk : k' + 1 - 1 = k' := by omega
        rw [hkk] at hy
        clear hkk
        obtain ⟨y', hb2, hyk', y0, y1⟩ := Rd.own_known ((HX.out.ex E0.out).ex HB.out) (k := k') (by have := HN.out; omega)
        have e : y' = y := by rw [hy] at hyk'; injection hyk' with e; exact e.symm
        subst e
        have HYP := Lib.hid hy
        have HLA := Lib.hid hla
        clear hy hyk' hla y0
        have hkp : decide ((0 : Int) < ((k' + 1 : Nat) : Int)) = true := by simp
        have hsub : IntKind.i64.wrap (((k' + 1 : Nat) : Int) - 1) = (k' : Int) := by rw [show ((k' + 1 : Nat) : Int) - 1 = (k' : Int) from by omega]; exact IntWalk.i64_in _ (by omega)
        have hk'n : (k' : Int) < (n : Int) := by omega
        have hk'0 : (0 : Int) < (k' : Int) + 1 := by omega
        by_cases t4 : x.tag ≤ y'.tag
        · obtain rfl : res = false := B1.out (k' + 1) x HXK.out (by rw [HLA.out]; exact t4)
          have t4b : decide (x.tag ≤ y'.tag) = true := by simp; omega
          go_wp2_with fail
          go_quiet ((go_at_call 53; exact Calls.quiet_of_same (l1Space_q _ _)))
          go_wp2
          go_ret
          exact ⟨rfl, ((E0.out.trans HB.out).alloc _).drewN _⟩
        · have t4b : decide (x.tag ≤ y'.tag) = false := by simp; omega
          have HLT : Hid (lastTag xs (k' + 1) < x.tag) := Lib.hid (by rw [HLA.out]; omega)
          go_wp2_with fail
          go_quiet ((go_at_call 53; exact Calls.quiet_of_same (l1Space_q _ _)))
          clear hsub t4b hkp
          obtain ⟨w2, hw2⟩ : ∃ w2 : World, w2 = (wr.alloc (.cells #[.int .i64 x.space, .int .i64 x.tag] 102)).drewN nq := ⟨_, rfl⟩
          obtain ⟨gx, hgx⟩ : ∃ gx : Nat, gx = wr.heap.size := ⟨_, rfl⟩
          have HB2 : Hid (Ex wr w2) := Lib.hid (by rw [hw2]; exact ((Ex.refl wr).alloc _).drewN _)
          have KX : Hid (Blk w2 gx 102 [.int .i64 x.space, .int .i64 x.tag]) := Lib.hid (by rw [hw2, hgx]; exact (Blk.new wr _ _).drewN _)
          rw [← hw2, ← hgx]
          clear hw2 hgx
          have KB2 := Lib.hid (HKB.out.ex HB2.out)
          have HE2 : Hid (Ex w w2) := Lib.hid ((E0.out.trans HB.out).trans HB2.out)
          have HW2 : Hid (Ex w0 w2) := Lib.hid (HB.out.trans HB2.out)
          have HX2 : Hid (Rd w2 (some ⟨b1, o1, none⟩) xs) := Lib.hid (HX.out.ex HE2.out)
          have HC : Hid (∀ (j : Nat) (y : OwnD), j < 0 → xs[j]? = some y → y.space ≠ x.space) := Lib.hid (fun j y h => by omega)
          clear HB HB2 HKB
          go_wp2
          go_loopw [5] (fun j wi => ∃ m : Nat, m ≤ (k' + 1) ∧ j = .int .i64 m ∧ Ex w2 wi ∧ ∀ (j : Nat) (y : OwnD), j < m → xs[j]? = some y → y.space ≠ x.space) (fun j _ => (k' + 1) - (intOf j).toNat)
          case atStart => exact ⟨0, Nat.zero_le _, rfl, Ex.refl _, HC.out⟩
          case round =>
            obtain ⟨m, hm, rfl, hbi, hcl⟩ := hrel
            have HBI := Lib.hid hbi
            have HCL := Lib.hid hcl
            clear hbi hcl
            obtain ⟨p0, p1⟩ := (KX.out.ex HBI.out).c2
            have lx := (KX.out.ex HBI.out).lt
            obtain ⟨q0, q1, q2, q3⟩ := (KB2.out.ex HBI.out).c4
            have lb := (KB2.out.ex HBI.out).lt
            by_cases hlm : m < (k' + 1)
            · obtain ⟨y, hb1', hyk, y0, y1⟩ := Rd.own_known (HX2.out.ex HBI.out) (k := m) (by have := HN.out; omega)
              have HYK := Lib.hid hyk
              clear hyk
              have hmn : (m : Int) < (n : Int) := by omega
              cases hys : (y.space == x.space)
              · have HYS := Lib.hid hys
                go_wp2_with fail
                go_quiet (fail)
                go_wp2
                go_roundw
                case rel => exact ⟨m + 1, by omega, by go_num, HBI.out.drewN _, fun j z hj hz => by
                  by_cases e : j = m
                  · subst e
                    have := HYK.out
                    rw [this] at hz
                    injection hz with hz
                    have h2 := HYS.out
                    rw [← hz]; simpa using h2
                  · exact HCL.out j z (by omega) hz⟩
                case measure => simp [intOf]; omega
              · obtain rfl : res = false := B4.out (k' + 1) m x y HXK.out HYK.out hlm (by simpa using hys)
                go_wp2_with fail
                go_quiet (fail)
                go_wp2
                go_ret
                exact ⟨rfl, (HE2.out.trans HBI.out).drewN _⟩
            · have hmk : m = (k' + 1) := by omega
              have HOK2 : Hid (OK ((k' + 1) + 1)) := Lib.hid (B6.out (k' + 1) x HOK.out HXK.out (by omega) HLT.out (by omega) t3 (fun j y hj hy => HCL.out j y (by omega) hy))
              have HMK := Lib.hid hmk
              clear hmk
              go_wp2
              go_roundw
              case rel => exact ⟨(k' + 1) + 1, by omega, by go_num, HW2.out.trans HBI.out, HOK2.out⟩
              case measure => simp [intOf]; omega
    · obtain rfl : k = n := by omega
      obtain rfl : res = true := B5.out HS.out HOK.out
      go_wp2
      go_ret
      exact ⟨rfl, E0.out.trans HB.out⟩
end Go.Proofs.YtihlaecbdlgbiaaDoor
