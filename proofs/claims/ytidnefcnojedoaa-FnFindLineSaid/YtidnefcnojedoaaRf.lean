/- What a pick returns hangs on the bytes and on the count alone. -/
import Derived.Test.YtidnefcnojedoaaRe
namespace Go.Proofs.Ytidnefcnojedoaa
open Go.ChangeShapes Go.WideShapes Go.ChangeAt Go.RowKit
open Rec (sz cs)
set_option linter.unusedVariables false
set_option maxRecDepth 100000

/-- Block g is a reader of these bytes that has picked p times. -/
def RdrV (w : World) (g p : Nat) (A : Option Addr) (c : Nat) (bs : List ByteD) : Prop := Blk w g 63 [.slice A bs.length c, .int .i64 (p : Int)] ∧ Rd w A bs ∧ bs.length ≤ 2000 ∧ bs.length ≤ c ∧ Bytes bs ∧ (0 < bs.length → ∀ b o, A = some ⟨b, o, none⟩ → b < g)
theorem RdrV.ex {w w' : World} {g p : Nat} {A : Option Addr} {c : Nat} {bs : List ByteD} (h : RdrV w g p A c bs) (k : Ex w w') : RdrV w' g p A c bs := ⟨h.1.ex k, h.2.1.ex k, h.2.2⟩
theorem Rdr.open_ {w : World} {g p : Nat} (h : Rdr w g p) : ∃ A c bs, RdrV w g p A c bs := h

def PickedV (g p : Nat) (v : Int) (w : World) (e : Ending) (w' : World) : Prop := e = .returned (.int .i64 v) ∧ Rdr w' g (p + 1) ∧ w.grownBy w' (some g)

set_option maxHeartbeats 4000000 in
theorem pick_det (p : Nat) (n : Int) (A : Option Addr) (c : Nat) (bs : List ByteD) (hp : p ≤ 1000000) (hn : n ≤ 1000000) :
    ∃ v : Int, InB v n ∧ ∀ (g : Nat) (w : World), RdrV w g p A c bs → Calls Try.prog 24 #[.pointer (some ⟨g, 0, none⟩), .int .i64 n] w (PickedV g p v w) := by
  by_cases hn1 : n < 1
  · refine ⟨0, ⟨Int.le_refl _, fun h => by omega, fun _ => rfl⟩, fun g w h => ?_⟩
    obtain ⟨h1, h2, h3, h4, h5, h6⟩ := h
    have HST := Lib.hid (rdr_step h1 h2 h3 h4 h5 h6)
    have HG : Hid (w.grownBy (w.setCell ⟨g, 1, none⟩ (.int .i64 ((p : Int) + 1))) (some g)) := Lib.hid (grown_set (grown_refl w _) _ _)
    obtain ⟨q0, q1⟩ := h1.c2
    have hfz := h1.frozen
    go_enter Try.func24, Try.ntmps24
    go_wp2
    go_ret
    exact ⟨rfl, HST.out, HG.out⟩
  by_cases hb0 : bs.length = 0
  · refine ⟨0, ⟨Int.le_refl _, fun h => by omega, fun _ => by omega⟩, fun g w h => ?_⟩
    obtain ⟨h1, h2, h3, h4, h5, h6⟩ := h
    have HST := Lib.hid (rdr_step h1 h2 h3 h4 h5 h6)
    have HG : Hid (w.grownBy (w.setCell ⟨g, 1, none⟩ (.int .i64 ((p : Int) + 1))) (some g)) := Lib.hid (grown_set (grown_refl w _) _ _)
    obtain ⟨q0, q1⟩ := h1.c2
    have hfz := h1.frozen
    have hbe : ((bs.length : Int) == 0) = true := by simp [hb0]
    obtain ⟨m, hm⟩ : ∃ m, m = bs.length := ⟨_, rfl⟩
    rw [← hm] at q0 hbe
    clear hm hb0 h1 h2
    go_enter Try.func24, Try.ntmps24
    go_wp2
    go_ret
    exact ⟨rfl, HST.out, HG.out⟩
  have key : ∀ (g : Nat) (w : World), RdrV w g p A c bs → ∀ k : Nat, k < bs.length → ∃ b o, A = some ⟨b, o, none⟩ ∧ 0 ≤ (bs.getD k ⟨0⟩).n ∧ (bs.getD k ⟨0⟩).n ≤ 255 ∧ (w.setCell ⟨g, 1, none⟩ (.int .i64 ((p : Int) + 1))).cell? ⟨b, o + k, none⟩ = some (.int .u8 (bs.getD k ⟨0⟩).n) := by
    rintro g w ⟨h1, h2, h3, h4, h5, h6⟩ k hk
    obtain ⟨b, o, x, e, hb, hx, hc⟩ := Rd.byte h2 (k := k) (by omega)
    have h7 := h6 (by omega) b o e
    have h8 := h5 x (List.mem_of_getElem? hx)
    have hgd : bs.getD k ⟨0⟩ = x := by rw [List.getD_eq_getElem?_getD, hx]; rfl
    rw [hgd]
    exact ⟨b, o, e, h8.1, h8.2, (World.cell?_setCell_other w ⟨g, 1, none⟩ ⟨b, o + k, none⟩ _ (by intro e; injection e with e1; omega)).trans hc⟩
  have KEY := Lib.hid key
  clear key
  by_cases hlt : p < bs.length
  · refine ⟨(bs.getD p ⟨0⟩).n % n, ⟨Int.emod_nonneg _ (by omega), fun _ => Int.emod_lt_of_pos _ (by omega), fun h => by omega⟩, fun g w h => ?_⟩
    obtain ⟨b, o, hA, hx0, hx1, hcell⟩ := KEY.out g w h p hlt
    obtain ⟨h1, h2, h3, h4, h5, h6⟩ := h
    have HST := Lib.hid (rdr_step h1 h2 h3 h4 h5 h6)
    have HG : Hid (w.grownBy (w.setCell ⟨g, 1, none⟩ (.int .i64 ((p : Int) + 1))) (some g)) := Lib.hid (grown_set (grown_refl w _) _ _)
    obtain ⟨q0, q1⟩ := h1.c2
    have hfz := h1.frozen
    subst hA
    generalize (bs.getD p ⟨0⟩).n = x at hx0 hx1 hcell ⊢
    obtain ⟨m, hm⟩ : ∃ m, m = bs.length := ⟨_, rfl⟩
    rw [← hm] at q0 h3 hb0 hlt
    have hne : ((m : Int) == 0) = false := by simp; omega
    clear hm h1 h2 h5 h6 h4 KEY
    go_enter Try.func24, Try.ntmps24
    go_wp2
    go_ret
    exact ⟨rfl, HST.out, HG.out⟩
  · obtain ⟨m, hm⟩ : ∃ m, m = bs.length := ⟨_, rfl⟩
    have HM := Lib.hid hm
    have hmp : 0 < m := by omega
    have hne : ((m : Int) == 0) = false := by simp; omega
    have hge : ¬ (p : Int) < (m : Int) := by omega
    have b1 := KEY.out
    obtain ⟨x, hx⟩ : ∃ x, x = (bs.getD (p % m) ⟨0⟩).n := ⟨_, rfl⟩
    obtain ⟨y, hy⟩ : ∃ y, y = (bs.getD ((p * 7 + 3) % m) ⟨0⟩).n := ⟨_, rfl⟩
    by_cases hbd : 0 ≤ x ∧ x ≤ 255 ∧ 0 ≤ y ∧ y ≤ 255
    rotate_left
    · refine ⟨0, ⟨Int.le_refl _, fun h => by omega, fun _ => rfl⟩, fun g w h => ?_⟩
      exfalso
      obtain ⟨_, _, _, q1, q2, _⟩ := b1 g w h (p % m) (by rw [← hm]; exact Nat.mod_lt _ hmp)
      obtain ⟨_, _, _, q3, q4, _⟩ := b1 g w h ((p * 7 + 3) % m) (by rw [← hm]; exact Nat.mod_lt _ hmp)
      rw [← hx] at q1 q2
      rw [← hy] at q3 q4
      exact hbd ⟨q1, q2, q3, q4⟩
    obtain ⟨hx0, hx1, hy0, hy1⟩ := hbd
    have d7 : (0 : Int) ≤ (p : Int) / (m : Int) := Int.ediv_nonneg (by omega) (by omega)
    have d8 : (p : Int) / (m : Int) ≤ 1000000 := by
      have e : (p : Int) / (m : Int) = ((p / m : Nat) : Int) := by simp
      rw [e]; have := Nat.div_le_self p m; omega
    obtain ⟨z, hz⟩ : ∃ z : Nat, z = (x * 131 + y * 1117 + (p : Int) * 29 + (p : Int) / (m : Int) * 53).toNat ^^^ ((x * 131 + y * 1117 + (p : Int) * 29 + (p : Int) / (m : Int) * 53).toNat / 64) := ⟨_, rfl⟩
    refine ⟨(z : Int) % n, ⟨Int.emod_nonneg _ (by omega), fun _ => Int.emod_lt_of_pos _ (by omega), fun h => by omega⟩, fun g w h => ?_⟩
    obtain ⟨b, o, hA, -, -, hcell⟩ := b1 g w h (p % m) (by rw [← hm]; exact Nat.mod_lt _ hmp)
    obtain ⟨b', o', hA', -, -, hcell'⟩ := b1 g w h ((p * 7 + 3) % m) (by rw [← hm]; exact Nat.mod_lt _ hmp)
    obtain ⟨h1, h2, h3, h4, h5, h6⟩ := h
    have HST := Lib.hid (rdr_step h1 h2 h3 h4 h5 h6)
    have HG : Hid (w.grownBy (w.setCell ⟨g, 1, none⟩ (.int .i64 ((p : Int) + 1))) (some g)) := Lib.hid (grown_set (grown_refl w _) _ _)
    obtain ⟨q0, q1⟩ := h1.c2
    have hfz := h1.frozen
    subst hA
    injection hA' with e'
    injection e' with e1 e2
    subst e1 e2
    rw [← hx] at hcell
    rw [← hy] at hcell'
    rw [← hm] at q0 h3
    have HZ := Lib.hid hz
    clear hx hy hz hm h1 h2 h5 h6 h4 b1 KEY hb0 hlt
    have d1 : (0 : Int) ≤ (p : Int) % (m : Int) := Int.emod_nonneg _ (by omega)
    have d2 : (p : Int) % (m : Int) < (m : Int) := Int.emod_lt_of_pos _ (by omega)
    have d3 : (0 : Int) ≤ ((p : Int) * 7 + 3) % (m : Int) := Int.emod_nonneg _ (by omega)
    have d4 : ((p : Int) * 7 + 3) % (m : Int) < (m : Int) := Int.emod_lt_of_pos _ (by omega)
    have d5 : ((p : Int) % (m : Int)).toNat = p % m := by omega
    have d6 : (((p : Int) * 7 + 3) % (m : Int)).toNat = (p * 7 + 3) % m := by
      have e : ((p : Int) * 7 + 3) % (m : Int) = (((p * 7 + 3) % m : Nat) : Int) := by simp
      rw [e, Int.toNat_natCast]
    go_enter Try.func24, Try.ntmps24
    go_wp2_with fail
    go_quiet (fail)
    have x0 : 0 ≤ x * 131 + y * 1117 + (p : Int) * 29 + (p : Int) / (m : Int) * 53 := by omega
    have x1 : x * 131 + y * 1117 + (p : Int) * 29 + (p : Int) / (m : Int) * 53 ≤ 1000000000 := by omega
    generalize hq : x * 131 + y * 1117 + (p : Int) * 29 + (p : Int) / (m : Int) * 53 = q at x0 x1 HZ ⊢
    obtain ⟨q, rfl⟩ := Int.eq_ofNat_of_zero_le x0
    clear hq d1 d2 d3 d4 d5 d6 d7 d8 hcell hcell'
    rw [Int.toNat_natCast] at HZ
    have hxx : bits .xor .i64 (q : Int) ((q : Int) / 64) = (z : Int) := by
      have := i64_xor_nat q (q / 64) (by omega) (by omega)
      rw [HZ.out]
      simpa using this
    have hxb : z < 2 ^ 30 := by rw [HZ.out]; exact Nat.xor_lt_two_pow (by omega) (by omega)
    have hxb' : (0 : Int) ≤ (z : Int) := by omega
    clear HZ
    go_wp2
    go_ret
    exact ⟨rfl, HST.out.ex ((Ex.refl _).drewN _), grown_ex HG.out ((Ex.refl _).drewN _)⟩
end Go.Proofs.Ytidnefcnojedoaa
