/- Contracts of the reader of drawn bytes: l12Open, pick, num. -/
import Derived.Test.YtidnefcnojedoaaRows
import Derived.Test.YtidnefcnojedoaaData
import Derived.Laws.BitsAllLaws
import Derived.Laws.BitsLemmas
namespace Go.Proofs.Ytidnefcnojedoaa
open Go.ChangeShapes Go.WideShapes Go.ChangeAt Go.RowKit
open Rec (sz cs)
set_option linter.unusedVariables false
set_option maxRecDepth 100000

/-- A byte of the drawn code. -/
structure ByteD where
  n : Int
deriving DecidableEq, Inhabited

instance : Rec ByteD where
  sz := 1
  cs b := [.int .u8 b.n]
  len _ := rfl
  pos := by decide
  one _ u hu := by simp at hu; subst hu; rfl

theorem Rd.byte {w : World} {A : Option Addr} {k : Nat} {xs : List ByteD} (h : Rd w A xs) (hk : k < xs.length) : ∃ b off x, A = some ⟨b, off, none⟩ ∧ b < w.heap.size ∧ xs[k]? = some x ∧
    w.cell? ⟨b, off + k, none⟩ = some (.int .u8 x.n) := by
  obtain ⟨b, off, x, e, hb, hx, hc⟩ := h.at_ hk
  exact ⟨b, off, x, e, hb, hx, by have := hc 0 _ (by decide) rfl; simpa [sz] using this⟩

def Bytes (bs : List ByteD) : Prop := ∀ b ∈ bs, 0 ≤ b.n ∧ b.n ≤ 255

/-- Block g is a reader that has picked p times. -/
def Rdr (w : World) (g p : Nat) : Prop := ∃ A c bs, Blk w g 63 [.slice A bs.length c, .int .i64 (p : Int)] ∧ Rd w A bs ∧ bs.length ≤ 2000 ∧ bs.length ≤ c ∧ Bytes bs ∧ (0 < bs.length → ∀ b o, A = some ⟨b, o, none⟩ → b < g)

theorem Rdr.ex {w w' : World} {g p : Nat} (h : Rdr w g p) (k : Ex w w') : Rdr w' g p := by
  obtain ⟨A, c, bs, h1, h2, h3⟩ := h
  exact ⟨A, c, bs, h1.ex k, h2.ex k, h3⟩
theorem Rdr.alloc {w : World} {g p : Nat} (h : Rdr w g p) (o : Obj) : Rdr (w.alloc o) g p := h.ex ((Ex.refl w).alloc o)
theorem Rdr.drew {w : World} {g p : Nat} (h : Rdr w g p) : Rdr w.drew g p := h.ex ((Ex.refl w).drew)
theorem Rdr.lt {w : World} {g p : Nat} (h : Rdr w g p) : g < w.heap.size := by
  obtain ⟨A, c, bs, h1, _⟩ := h
  exact h1.lt

theorem Rd.lits (w : World) (T : TypeId) (zs : List Int) : Rd (w.alloc (.cells (zs.map (Value.int .i64)).toArray T)) (some ⟨w.heap.size, 0, none⟩) zs := by
  have e : flat zs = zs.map (Value.int .i64) := by
    induction zs with
    | nil => rfl
    | cons z zs ih => simp [ih, cs]
  have := Bk.rd (Bk.new w T zs)
  rwa [e] at this

set_option maxHeartbeats 400000 in
theorem l12Open_c (A : Option Addr) (c : Nat) (bs : List ByteD) (w : World) (hx : Rd w A bs) (hb : Bytes bs) (hn : bs.length ≤ 1048576) (hc : bs.length ≤ c) (hcm : c ≤ maxLen) :
    Calls Try.prog 18 #[.slice A bs.length c] w fun r w' => ∃ g, r = .returned (.pointer (some ⟨g, 0, none⟩)) ∧ Rdr w' g 0 ∧ w.heap.size ≤ g ∧ Ex w w' := by
  have H1 := Lib.hid hx
  have hlt : 0 < bs.length → ∀ b o, A = some ⟨b, o, none⟩ → b < w.heap.size := fun h0 b o e => by
    obtain ⟨b', o', e', hb', _⟩ := hx h0
    rw [e] at e'
    injection e' with e'
    injection e' with e1
    omega
  have H2 := Lib.hid hlt
  unfold maxLen at hcm
  clear hx hlt
  by_cases h2 : 2000 < bs.length
  · have hl : (bs.take 2000).length = 2000 := by rw [List.length_take]; omega
    have h3 : (2000 : Int) < (bs.length : Int) := by omega
    have HL := Lib.hid hl
    clear hl
    go_enter Try.func18, Try.ntmps18
    go_wp2
    go_ret
    refine ⟨_, rfl, ⟨A, c, bs.take 2000, ?_, (H1.out.take 2000).alloc _, by rw [HL.out]; exact Nat.le_refl _, by rw [HL.out]; omega, fun b hb' => hb b (List.mem_of_mem_take hb'), fun _ => H2.out (by omega)⟩, Nat.le_refl _, (Ex.refl _).alloc _⟩
    rw [HL.out]
    exact Blk.new_at _ _ _ rfl
  · have h3 : ¬ (2000 : Int) < (bs.length : Int) := by omega
    go_enter Try.func18, Try.ntmps18
    go_wp2
    go_ret
    exact ⟨_, rfl, ⟨A, c, bs, Blk.new_at _ _ _ rfl, H1.out.alloc _, by omega, hc, hb, H2.out⟩, Nat.le_refl _, (Ex.refl _).alloc _⟩

theorem ofInt_i64 (a : Nat) (ha : a < 9223372036854775808) : (BitVec.ofInt 64 (a : Int)).toNat = a := by
  rw [BitVec.ofInt_natCast, BitVec.toNat_ofNat]; exact Nat.mod_eq_of_lt (by omega)
theorem i64_xor_nat (a b : Nat) (ha : a < 9223372036854775808) (hb : b < 9223372036854775808) : bits .xor .i64 (a : Int) (b : Int) = ((a ^^^ b : Nat) : Int) := by
  have hx : a ^^^ b < 2 ^ 63 := Nat.xor_lt_two_pow (by omega) (by omega)
  show IntKind.i64.wrap ((BitVec.ofInt 64 (a : Int) ^^^ BitVec.ofInt 64 (b : Int)).toNat : Int) = _
  rw [BitVec.toNat_xor, ofInt_i64 a ha, ofInt_i64 b hb, IntKind.wrap_i64]
  omega

def InB (v n : Int) : Prop := 0 ≤ v ∧ (1 ≤ n → v < n) ∧ (n < 1 → v = 0)

/-- What a pick leaves. -/
def Picked (g p : Nat) (n : Int) (w : World) (e : Ending) (w' : World) : Prop := ∃ v : Int, e = .returned (.int .i64 v) ∧ InB v n ∧ Rdr w' g (p + 1) ∧ w.grownBy w' (some g)

theorem rdr_step {w : World} {g p : Nat} {A : Option Addr} {c : Nat} {bs : List ByteD} (h1 : Blk w g 63 [.slice A bs.length c, .int .i64 (p : Int)]) (h2 : Rd w A bs) (h3 : bs.length ≤ 2000) (h4 : bs.length ≤ c) (h5 : Bytes bs) (h6 : 0 < bs.length → ∀ b o, A = some ⟨b, o, none⟩ → b < g) :
    Rdr (w.setCell ⟨g, 1, none⟩ (.int .i64 ((p : Int) + 1))) g (p + 1) := by
  refine ⟨A, c, bs, ?_, ?_, h3, h4, h5, h6⟩
  · have := h1.set 1 (.int .i64 ((p : Int) + 1))
    simpa using this
  · intro h0
    obtain ⟨b, o, e, hb, hc⟩ := h2 h0
    have := h6 h0 b o e
    exact ⟨b, o, e, by simpa using hb, fun m u hu => (World.cell?_setCell_other w ⟨g, 1, none⟩ ⟨b, o + m, none⟩ _ (by intro e; injection e with e1; omega)).trans (hc m u hu)⟩

set_option maxHeartbeats 1000000 in
theorem pick_c (g p : Nat) (n : Int) (w : World) (h : Rdr w g p) (hp : p ≤ 1000000) (hn : n ≤ 1000000) :
    Calls Try.prog 24 #[.pointer (some ⟨g, 0, none⟩), .int .i64 n] w (Picked g p n w) := by
  obtain ⟨A, c, bs, h1, h2, h3, h4, h5, h6⟩ := h
  have hst := rdr_step h1 h2 h3 h4 h5 h6
  have HST := Lib.hid hst
  have HG : Hid (w.grownBy (w.setCell ⟨g, 1, none⟩ (.int .i64 ((p : Int) + 1))) (some g)) := Lib.hid (grown_set (grown_refl w _) _ _)
  obtain ⟨q0, q1⟩ := h1.c2
  have hfz := h1.frozen
  by_cases hn1 : n < 1
  · have HF : Hid (InB 0 n) := Lib.hid ⟨Int.le_refl _, fun h => by omega, fun _ => rfl⟩
    go_enter Try.func24, Try.ntmps24
    go_wp2
    go_ret
    exact ⟨0, rfl, HF.out, HST.out, HG.out⟩
  by_cases hb0 : bs.length = 0
  · have hbe : ((bs.length : Int) == 0) = true := by simp [hb0]
    have HF : Hid (InB 0 n) := Lib.hid ⟨Int.le_refl _, fun h => by omega, fun _ => by omega⟩
    obtain ⟨m, hm⟩ : ∃ m, m = bs.length := ⟨_, rfl⟩
    rw [← hm] at q0 hbe
    clear hm hb0 h1 h2
    go_enter Try.func24, Try.ntmps24
    go_wp2
    go_ret
    exact ⟨0, rfl, HF.out, HST.out, HG.out⟩
  obtain ⟨m, hm⟩ : ∃ m, m = bs.length := ⟨_, rfl⟩
  have HM := Lib.hid hm
  rw [← hm] at q0 h3 hb0
  have hmp : 0 < m := by omega
  have hne : ((m : Int) == 0) = false := by simp; omega
  have hn1' : ¬ n < 1 := hn1
  have key : ∀ k : Nat, k < m → ∃ b o x, A = some ⟨b, o, none⟩ ∧ 0 ≤ x ∧ x ≤ 255 ∧ (w.setCell ⟨g, 1, none⟩ (.int .i64 ((p : Int) + 1))).cell? ⟨b, o + k, none⟩ = some (.int .u8 x) := by
    intro k hk
    obtain ⟨b, o, x, e, hb, hx, hc⟩ := Rd.byte h2 (k := k) (by omega)
    have h7 := h6 (by omega) b o e
    have h8 := h5 x (List.mem_of_getElem? hx)
    exact ⟨b, o, x.n, e, h8.1, h8.2, (World.cell?_setCell_other w ⟨g, 1, none⟩ ⟨b, o + k, none⟩ _ (by intro e; injection e with e1; omega)).trans hc⟩
  have KEY := Lib.hid key
  clear key hst h1 h2 h5 h6 hm
  by_cases hlt : p < m
  · obtain ⟨b, o, x, rfl, hx0, hx1, hcell⟩ := KEY.out p hlt
    have HF : Hid (InB (x % n) n) := Lib.hid ⟨Int.emod_nonneg _ (by omega), fun _ => Int.emod_lt_of_pos _ (by omega), fun h => by omega⟩
    go_enter Try.func24, Try.ntmps24
    go_wp2
    go_ret
    exact ⟨x % n, rfl, HF.out, HST.out, HG.out⟩
  · have hge : ¬ (p : Int) < (m : Int) := by omega
    obtain ⟨b, o, x, rfl, hx0, hx1, hcell⟩ := KEY.out (p % m) (Nat.mod_lt _ hmp)
    obtain ⟨b', o', y, e', hy0, hy1, hcell'⟩ := KEY.out ((p * 7 + 3) % m) (Nat.mod_lt _ hmp)
    injection e' with e'
    injection e' with e1 e2
    subst e1 e2
    have d1 : (0 : Int) ≤ (p : Int) % (m : Int) := Int.emod_nonneg _ (by omega)
    have d2 : (p : Int) % (m : Int) < (m : Int) := Int.emod_lt_of_pos _ (by omega)
    have d3 : (0 : Int) ≤ ((p : Int) * 7 + 3) % (m : Int) := Int.emod_nonneg _ (by omega)
    have d4 : ((p : Int) * 7 + 3) % (m : Int) < (m : Int) := Int.emod_lt_of_pos _ (by omega)
    have d5 : ((p : Int) % (m : Int)).toNat = p % m := by omega
    have d6 : (((p : Int) * 7 + 3) % (m : Int)).toNat = (p * 7 + 3) % m := by
      have e : ((p : Int) * 7 + 3) % (m : Int) = (((p * 7 + 3) % m : Nat) : Int) := by simp
      rw [e, Int.toNat_natCast]
    have d7 : (0 : Int) ≤ (p : Int) / (m : Int) := Int.ediv_nonneg (by omega) (by omega)
    have d8 : (p : Int) / (m : Int) ≤ 1000000 := by
      have e : (p : Int) / (m : Int) = ((p / m : Nat) : Int) := by simp
      rw [e]; have := Nat.div_le_self p m; omega
    go_enter Try.func24, Try.ntmps24
    go_wp2_with fail
    go_quiet (fail)
    have x0 : 0 ≤ x * 131 + y * 1117 + (p : Int) * 29 + (p : Int) / (m : Int) * 53 := by omega
    have x1 : x * 131 + y * 1117 + (p : Int) * 29 + (p : Int) / (m : Int) * 53 ≤ 1000000000 := by omega
    generalize hq : x * 131 + y * 1117 + (p : Int) * 29 + (p : Int) / (m : Int) * 53 = q at x0 x1 ⊢
    obtain ⟨q, rfl⟩ := Int.eq_ofNat_of_zero_le x0
    clear hq d1 d2 d3 d4 d5 d6 d7 d8 hcell hcell'
    have hx : bits .xor .i64 (q : Int) ((q : Int) / 64) = ((q ^^^ (q / 64) : Nat) : Int) := by
      have := i64_xor_nat q (q / 64) (by omega) (by omega)
      simpa using this
    have hxb : q ^^^ (q / 64) < 2 ^ 30 := Nat.xor_lt_two_pow (by omega) (by omega)
    have hxb' : (0 : Int) ≤ ((q ^^^ (q / 64) : Nat) : Int) := by omega
    generalize hz : q ^^^ (q / 64) = z at hx hxb hxb'
    clear hz
    have HF : Hid (InB ((z : Int) % n) n) := Lib.hid ⟨Int.emod_nonneg _ (by omega), fun _ => Int.emod_lt_of_pos _ (by omega), fun h => by omega⟩
    go_wp2
    go_ret
    exact ⟨(z : Int) % n, rfl, HF.out, HST.out.ex ((Ex.refl _).drewN _), grown_ex HG.out ((Ex.refl _).drewN _)⟩

/-- What a choice among the numbers zs leaves. -/
def Chosen (g p : Nat) (zs : List Int) (w : World) (e : Ending) (w' : World) : Prop := ∃ v : Int, e = .returned (.int .i64 v) ∧ v ∈ zs ∧ Rdr w' g (p + 1) ∧ w.grownBy w' (some g)

set_option maxHeartbeats 1000000 in
theorem num_c (g p b o c : Nat) (zs : List Int) (w : World) (h : Rdr w g p) (hz : Rd w (some ⟨b, o, none⟩) zs) (h0 : 0 < zs.length) (h1 : zs.length ≤ 1000000) (hp : p ≤ 1000000) (hbg : b ≠ g) :
    Calls Try.prog 37 #[.pointer (some ⟨g, 0, none⟩), .slice (some ⟨b, o, none⟩) zs.length c] w (Chosen g p zs w) := by
  have H := Lib.hid h
  have HZ := Lib.hid hz
  obtain ⟨n, hn⟩ : ∃ n, n = zs.length := ⟨_, rfl⟩
  have HN := Lib.hid hn
  rw [← hn] at h0 h1 ⊢
  clear h hz hn
  go_enter Try.func37, Try.ntmps37
  go_wp2_with fail
  refine (pick_c g p n w H.out hp (by omega)).mono ?_
  rintro r w1 ⟨v, rfl, ⟨hv0, hv1, hv2⟩, hr, hg⟩
  have hv1' : v < n := hv1 (by omega)
  obtain ⟨k, rfl⟩ := Int.eq_ofNat_of_zero_le hv0
  have hk : k < n := by omega
  have hgr : Rd w1 (some ⟨b, o, none⟩) zs := HZ.out.grown hg (fun b' e off e' => by injection e with e; injection e' with e'; injection e' with e1; omega)
  obtain ⟨b', o', x, e, hb, hx, hc⟩ := Rd.int hgr (k := k) (by have := HN.out; omega)
  injection e with e
  injection e with e1 e2
  subst e1 e2
  have HX : Hid (x ∈ zs) := Lib.hid (List.mem_of_getElem? hx)
  have HR := Lib.hid hr
  have HG := Lib.hid hg
  clear hv1 hv2 hr hg hgr hx
  go_wp2
  go_ret
  exact ⟨x, rfl, HX.out, HR.out, HG.out⟩
end Go.Proofs.Ytidnefcnojedoaa
