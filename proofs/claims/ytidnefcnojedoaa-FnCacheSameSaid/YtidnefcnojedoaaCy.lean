/- The line that is replaced next: VictimOf of both sides. -/
import Derived.Test.YtidnefcnojedoaaCa
namespace Go.Proofs.Ytidnefcnojedoaa
open Go.ChangeShapes Go.WideShapes Go.ChangeAt Go.RowKit
open Rec (sz cs)
set_option linter.unusedVariables false
set_option maxRecDepth 100000

/-- How far the hand turns from h, in steps of one round n, until p holds. -/
def turnOf (p : Nat → Bool) (n h : Nat) : Nat := ((List.range n).findIdx? fun d => p ((h + d) % n)).getD 0
theorem turnOf_spec {p : Nat → Bool} {n h k : Nat} (hh : h < n) (hk : k < n) (hp : p k = true) :
    turnOf p n h < n ∧ p ((h + turnOf p n h) % n) = true ∧ ∀ d, d < turnOf p n h → p ((h + d) % n) = false := by
  unfold turnOf
  cases e : (List.range n).findIdx? fun d => p ((h + d) % n) with
  | none =>
    exfalso
    rw [List.findIdx?_eq_none_iff] at e
    by_cases hkh : h ≤ k
    · have := e (k - h) (List.mem_range.2 (by omega))
      rw [show h + (k - h) = k by omega, Nat.mod_eq_of_lt hk, hp] at this
      cases this
    · have := e (k + n - h) (List.mem_range.2 (by omega))
      rw [show h + (k + n - h) = k + n by omega, Nat.add_mod_right, Nat.mod_eq_of_lt hk, hp] at this
      cases this
  | some d =>
    rw [List.findIdx?_eq_some_iff_getElem] at e
    obtain ⟨hd, h1, h2⟩ := e
    simp only [List.length_range] at hd
    simp only [List.getElem_range] at h1 h2
    refine ⟨hd, h1, fun j hj => ?_⟩
    have := h2 j hj
    simpa using this
theorem turn_succ {n m : Nat} (hn : 0 < n) : (m + 1) % n = if m % n + 1 = n then 0 else m % n + 1 := by
  have h1 := Nat.mod_lt m hn
  rw [Nat.add_mod]
  by_cases h : n = 1
  · subst h; simp [Nat.mod_one]
  rw [Nat.mod_eq_of_lt (show 1 < n by omega)]
  split
  · rename_i e; rw [e, Nat.mod_self]
  · exact Nat.mod_eq_of_lt (by omega)
/-- How many steps the hand has turned, read from where it stands. -/
theorem turn_back {n h d : Nat} (hh : h < n) (hd : d < n) : ((h + d) % n + n - h) % n = d := by
  by_cases e : h + d < n
  · rw [Nat.mod_eq_of_lt e, show h + d + n - h = d + n by omega, Nat.add_mod_right, Nat.mod_eq_of_lt hd]
  · have e1 : (h + d) % n = h + d - n := by rw [Nat.mod_eq_sub_mod (by omega), Nat.mod_eq_of_lt (by omega)]
    rw [e1, show h + d - n + n - h = d by omega, Nat.mod_eq_of_lt hd]

theorem turn_next {m h d k : Nat} (hm : m = (h + d) % k) : ((m : Int) + 1) % (k : Int) = (((h + (d + 1)) % k : Nat) : Int) := by
  have : (m + 1) % k = (h + (d + 1)) % k := by rw [hm, Nat.mod_add_mod]; rfl
  exact_mod_cast this

def freeAt (xs : List LineD) : Int := firstOf (fun x => !x.valid) xs
def looseAt (t : CacheD) : Nat := (t.hand.toNat + turnOf (fun k => !(t.lines.getD k noLine).wired) t.lines.length t.hand.toNat) % t.lines.length
def victimAt (t : CacheD) : Int := if 0 ≤ freeAt t.lines then freeAt t.lines else looseAt t
def victimOf (t : CacheD) : Int × Bool := if cacheV t then (victimAt t, true) else (0, false)

theorem victim_facts {t : CacheD} (hv : cacheV t = true) : ∃ h d0 : Nat, t.hand = (h : Int) ∧ h < t.lines.length ∧ t.lines.length ≤ 8 ∧ d0 < t.lines.length ∧
    (∀ (k : Nat) (x : LineD), t.lines[k]? = some x → x.valid = false → (∀ (j : Nat) (y : LineD), j < k → t.lines[j]? = some y → y.valid = true) → victimAt t = (k : Int)) ∧
    ((∀ (j : Nat) (y : LineD), j < t.lines.length → t.lines[j]? = some y → y.valid = true) → victimAt t = (((h + d0) % t.lines.length : Nat) : Int)) ∧
    (∀ (d : Nat) (x : LineD), d < d0 → t.lines[(h + d) % t.lines.length]? = some x → x.wired = true) ∧
    (∀ x : LineD, t.lines[(h + d0) % t.lines.length]? = some x → x.wired = false) := by
  obtain ⟨⟨h1, h2, h3, h4⟩, -, hl⟩ := (cacheV_iff t).1 hv
  unfold looseUp at hl
  rw [List.take_length, List.any_eq_true] at hl
  obtain ⟨x, hx, hw⟩ := hl
  obtain ⟨k, hk, rfl⟩ := List.getElem_of_mem hx
  obtain ⟨a1, a2, a3⟩ := turnOf_spec (p := fun k => !(t.lines.getD k noLine).wired) (n := t.lines.length) (h := t.hand.toNat) (k := k) (by omega) hk (by rw [getD_of (List.getElem?_eq_getElem hk)]; exact hw)
  refine ⟨t.hand.toNat, turnOf (fun k => !(t.lines.getD k noLine).wired) t.lines.length t.hand.toNat, by omega, by omega, by omega, a1, ?_, ?_, ?_, ?_⟩
  · intro k x hx hf hb
    have : freeAt t.lines = (k : Int) := firstOf_at hx (by simp [hf]) (fun j y hj hy => by simp [hb j y hj hy])
    unfold victimAt; rw [this, if_pos (by omega)]
  · intro hb
    have : freeAt t.lines = -1 := firstOf_none (fun j y hj hy => by simp [hb j y hj hy])
    unfold victimAt; rw [this, if_neg (by omega)]; rfl
  · intro d x hd hx
    have := a3 d hd
    rw [getD_of hx] at this
    simpa using this
  · intro x hx
    rw [getD_of hx] at a2
    simpa using a2

set_option maxHeartbeats 2000000 in
theorem l4Victim_c (t : CacheD) (A : Option Addr) (c : Nat) (w : World) (hx : Rd w A t.lines) (hc : t.lines.length ≤ c) (hv : cacheV t = true) :
    Calls Try.prog 55 #[.agg #[.slice A t.lines.length c, .int .i64 t.hand]] w fun r w' => r = .returned (.int .i64 (victimAt t)) ∧ Ex w w' := by
  obtain ⟨h, d0, e1, e2, e3, e4, b1, b2, b3, b4⟩ := victim_facts hv
  generalize victimAt t = res at *
  clear hv
  obtain ⟨xs, hand⟩ := t
  simp only at e1 e2 e3 e4 b1 b2 b3 b4 hx hc ⊢
  subst e1
  obtain ⟨n, hn1⟩ : ∃ n, n = xs.length := ⟨_, rfl⟩
  have HN := Lib.hid hn1
  rw [← hn1] at e2 e3 e4 b2 b3 b4 hc ⊢
  have HX := Lib.hid hx
  have B1 := Lib.hid b1
  have B2 := Lib.hid b2
  have B3 := Lib.hid b3
  have B4 := Lib.hid b4
  clear hn1 hx b1 b2 b3 b4
  go_enter Try.func55, Try.ntmps55
  go_wp2
  obtain ⟨w0, hw0⟩ : ∃ w0 : World, w0 = w.alloc (.cells #[.slice A n c, .int .i64 h] 33) := ⟨_, rfl⟩
  obtain ⟨gb, hgb⟩ : ∃ gb : Nat, gb = w.heap.size := ⟨_, rfl⟩
  have K0 : Hid (Blk w0 gb 33 [.slice A n c, .int .i64 h]) := Lib.hid (by rw [hw0, hgb]; exact Blk.new w _ _)
  have E0 : Hid (Ex w w0) := Lib.hid (by rw [hw0]; exact (Ex.refl w).alloc _)
  rw [← hw0, ← hgb]
  clear hw0 hgb
  go_loopw [3] (fun i wr => ∃ k : Nat, k ≤ n ∧ i = .int .i64 k ∧ Ex w0 wr ∧ ∀ (j : Nat) (y : LineD), j < k → xs[j]? = some y → y.valid = true) (fun i _ => n - (intOf i).toNat)
  case atStart => exact ⟨0, Nat.zero_le _, rfl, Ex.refl _, fun j y h => by omega⟩
  case round =>
    obtain ⟨k, hk, rfl, hbel, hcl⟩ := hrel
    have HB := Lib.hid hbel
    have HCL := Lib.hid hcl
    clear hbel hcl
    obtain ⟨q0, q1⟩ := (K0.out.ex HB.out).c2
    have lb := (K0.out.ex HB.out).lt
    by_cases hlt : k < n
    · obtain ⟨a1, o1, x, rfl, hb1, hxk, h0, h1, h2, h3, h4, h5⟩ := Rd.line ((HX.out.ex E0.out).ex HB.out) (k := k) (by have := HN.out; omega)
      have HXK := Lib.hid hxk
      clear hxk
      cases hv : x.valid
      · obtain rfl : res = (k : Int) := B1.out k x HXK.out hv HCL.out
        rw [hv] at h0
        go_wp2
        go_ret
        exact ⟨rfl, E0.out.trans HB.out⟩
      · have HV := Lib.hid hv
        rw [hv] at h0
        go_wp2
        go_roundw
        case rel => exact ⟨k + 1, by omega, by go_num, HB.out, fun j z hj hz => by
          by_cases e : j = k
          · subst e
            have := HXK.out
            rw [this] at hz
            injection hz with hz
            rw [← hz]; exact HV.out
          · exact HCL.out j z (by omega) hz⟩
        case measure => simp [intOf]; omega
    · obtain rfl : k = n := by omega
      obtain rfl : res = _ := B2.out HCL.out
      go_wp2
      have HE : Hid (Ex w wr) := Lib.hid (E0.out.trans HB.out)
      have KR : Hid (Blk wr gb 33 [.slice A k c, .int .i64 h]) := Lib.hid (K0.out.ex HB.out)
      have HXR : Hid (Rd wr A xs) := Lib.hid (HX.out.ex HE.out)
      clear HCL q0 q1 lb HX K0 hlt hk
      go_loopw [4] (fun a wi => ∃ d : Nat, d ≤ d0 ∧ a = .int .i64 (((h + d) % k : Nat) : Int) ∧ Ex wr wi) (fun a _ => d0 - (((intOf a).toNat + k - h) % k))
      case atStart => exact ⟨0, by omega, by rw [Nat.add_zero, Nat.mod_eq_of_lt e2], Ex.refl _⟩
      case round =>
        obtain ⟨d, hd, rfl, hbel⟩ := hrel
        have HBI := Lib.hid hbel
        clear hbel
        obtain ⟨q0, q1⟩ := (KR.out.ex HBI.out).c2
        have lb := (KR.out.ex HBI.out).lt
        obtain ⟨m, hm⟩ : ∃ m, m = (h + d) % k := ⟨_, rfl⟩
        have hmk : m < k := by rw [hm]; exact Nat.mod_lt _ (by omega)
        have HM := Lib.hid hm
        rw [← hm]
        clear hm
        obtain ⟨a1, o1, x, rfl, hb1, hxk, h0, h1, h2, h3, h4, h5⟩ := Rd.line (HXR.out.ex HBI.out) (k := m) (by have := HN.out; omega)
        have HXK := Lib.hid hxk
        clear hxk h0 h1 h2 h3 h4
        have hm0 : ¬ ((m : Int) < 0) := by omega
        by_cases hdd : d = d0
        · subst hdd
          have hw : x.wired = false := B4.out x (by rw [← HM.out]; exact HXK.out)
          rw [hw] at h5
          go_wp2
          go_ret
          exact ⟨ret_int (by rw [HM.out]; simp), HE.out.trans HBI.out⟩
        · have hw : x.wired = true := B3.out d x (by omega) (by rw [← HM.out]; exact HXK.out)
          rw [hw] at h5
          have hk0 : ¬ ((k : Int) = 0) := by omega
          have HN1 := Lib.hid (turn_next HM.out)
          have HT1 : Hid ((m + k - h) % k = d) := Lib.hid (by rw [HM.out]; exact turn_back e2 (by omega))
          have HT2 : Hid (((h + (d + 1)) % k + k - h) % k = d + 1) := Lib.hid (turn_back e2 (by omega))
          go_wp2
          go_roundw
          case rel => exact ⟨d + 1, by omega, congrArg (Value.int .i64) HN1.out, HBI.out⟩
          case measure =>
            show d0 - ((((m : Int) + 1) % (k : Int)).toNat + k - h) % k < d0 - ((m : Int).toNat + k - h) % k
            rw [HN1.out, Int.toNat_natCast, Int.toNat_natCast, HT1.out, HT2.out]
            omega

end Go.Proofs.Ytidnefcnojedoaa
