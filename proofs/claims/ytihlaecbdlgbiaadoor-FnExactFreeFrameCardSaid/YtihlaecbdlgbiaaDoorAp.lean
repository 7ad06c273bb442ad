/- Appending to a slice of the call's own: one law over my word for such slices, whatever its spare room. No program in sight. -/
import Derived.Test.YtihlaecbdlgbiaaDoorChg
import Derived.Deep.Upon
namespace Go.Proofs.YtihlaecbdlgbiaaDoor
open Go.ChangeShapes Go.WideShapes Go.ChangeAt Go.RowKit
open Rec (sz cs)

section
variable {α : Type} [Rec α]

theorem addr_lit (b off j : Nat) : (⟨b, off, none⟩ : Addr).add j = ⟨b, off + j, none⟩ := by
  unfold Addr.add; split <;> simp_all

theorem Rd.news {w : World} {b off : Nat} {xs : List α} (h : Rd w (some ⟨b, off, none⟩) xs) : ∀ j u, (flat xs)[j]? = some u → w.cell? ((⟨b, off, none⟩ : Addr).add j) = some u := by
  intro j u hu
  have hlt := getElem?_lt hu
  rw [flat_length] at hlt
  obtain ⟨b', o', e, hb, hcs⟩ := h (by rcases xs with _ | ⟨x, l⟩ <;> simp at hlt ⊢)
  injection e with e
  injection e with e1 e2
  subst e1 e2
  rw [addr_lit]
  exact hcs j u hu

/-- What an append leaves. -/
structure Apd (E : TypeId) (w : World) (B : Nat) (A : Option Addr) (c : Nat) (zs : List α) (A' : Option Addr) (c' : Nat) (w' : World) : Prop where
  fr : Fr E w' B A' c' zs
  grown : w.grownBy w' (rowOf A c)
  row : rowOf A' c' = rowOf A c ∨ rowOf A' c' = some w.heap.size

/-- THE LAW. -/
theorem run_append_fr {P : Program} (w : World) (t ty E : TypeId) (i : TypeInfo) (z : Value) (bytes B : Nat) (ht : P.underlying t = some (.slice E)) (hi : P.info? E = some i) (hz : i.zero = some z)
    (hsize : i.size = sz α) (hby : i.bytes = bytes) (hzs : z.cells.size = sz α)
    (A : Option Addr) (c : Nat) (xs : List α) (hf : Fr E w B A c xs) (S : Option Addr) (c2 : Nat) (ys : List α) (hy : Rd w S ys)
    (h63 : xs.length + ys.length ≤ maxLen) (hbytes : (xs.length + ys.length) * bytes ≤ 140737488355328) (hbase : B ≤ w.heap.size) :
    ∃ A' c' w', (Builtin.append_ #[t, t] ty #[.slice A xs.length c, .slice S ys.length c2]).run P w = .ok (.slice A' (xs.length + ys.length) c') w' ∧ Apd E w B A c (xs ++ ys) A' c' w' := by
  by_cases hm : ys.length = 0
  · obtain rfl : ys = [] := List.eq_nil_of_length_eq_zero hm
    have hle := hf.le
    refine ⟨A, c, w, ?_, ⟨by simpa using hf, grown_refl _ _, .inl rfl⟩⟩
    cases A <;> cases S <;> simp [Builtin.append_, run_underlying ht, sizeOf, typeInfo, hi, Builtin.lenOf, Builtin.firstCells, loadCells, loadCellsFrom, hle, storeCells]
  obtain ⟨b, off, rfl, -, -⟩ := hy (by omega)
  have hnews := hy.news
  have hl : (flat ys).length = ys.length * i.size := by rw [flat_length, hsize]
  have h63' : xs.length + ys.length ≤ 9223372036854775807 := by simp only [maxLen] at h63; omega
  have hpos : 0 < sz α := Rec.pos
  have fresh : ∀ old, Fr E (w.drew.alloc (.cells ((flat xs).toArray ++ (flat ys).toArray ++ Builtin.zeroCells z.cells (grownCap w (xs.length + ys.length) old E - (xs.length + ys.length))) E)) B (some ⟨w.heap.size, 0, none⟩) (grownCap w (xs.length + ys.length) old E) (xs ++ ys) := by
    intro old
    have hge := grownCap_ge w (xs.length + ys.length) old E
    refine ⟨by rw [List.length_append]; exact hge, grownCap_le_maxLen w _ old E h63, .inr ⟨w.heap.size, (Builtin.zeroCells z.cells (grownCap w (xs.length + ys.length) old E - (xs.length + ys.length))).toList, rfl, hbase, ?_, ?_⟩⟩
    · unfold Bk Blk
      rw [show w.heap.size = w.drew.heap.size from rfl, heap_alloc_new]
      congr 2
      apply Array.ext'
      simp [flat_append]
    · simp only [Array.length_toList, size_zeroCells, hzs, List.length_append]
      exact Nat.le_refl _
  have gr : ∀ (cells : Array Value) (row : Option Nat), w.grownBy (w.drew.alloc (.cells cells E)) row := fun cells row => ⟨rfl, rfl, rfl, by simp, fun k hk _ => Below.heap_alloc w.drew _ k hk⟩
  by_cases hroom : xs.length + ys.length ≤ c
  · obtain ⟨hle, hcm, h0 | ⟨g, rest, rfl, hB, hb, hr⟩⟩ := hf
    · omega
    have hfit : xs.length * i.size + (flat ys).length ≤ (flat xs ++ rest).toArray.size := by
      rw [hl, hsize]
      simp only [List.size_toArray, List.length_append, flat_length]
      have : ys.length * sz α ≤ (c - xs.length) * sz α := Nat.mul_le_mul_right _ (by omega)
      omega
    have hrun := run_append_room (P := P) w t ty E i ht hi g xs.length c (flat xs ++ rest).toArray hb ⟨b, off, none⟩ ys.length c2 (flat ys) hl hnews (flat_one ys) hroom hfit
    refine ⟨_, _, _, hrun, ⟨⟨by rw [List.length_append]; exact hroom, hcm, .inr ⟨g, rest.drop (ys.length * sz α), rfl, hB, ?_, ?_⟩⟩, ⟨rfl, rfl, rfl, by simp, fun k _ hk => setRow_other w g k _ (fun e => hk (by rw [e, rowOf_some (by omega)]))⟩, .inl rfl⟩⟩
    · unfold Bk Blk
      rw [setRow_heap w g _ _ E _ hb]
      congr 2
      apply Array.ext'
      have e1 : xs.length * i.size = (flat xs).length := by rw [flat_length, hsize]
      simp only [e1, flat_append, List.append_assoc]
      rw [List.take_left, hl, hsize, flat_length]
      congr 2
      rw [← flat_length, List.drop_append, List.drop_of_length_le (by omega)]
      simp [flat_length]
    · rw [List.length_drop, List.length_append]
      have : (c - (xs.length + ys.length)) * sz α = (c - xs.length) * sz α - ys.length * sz α := by rw [← Nat.sub_mul]; congr 1; omega
      omega
  · cases A with
    | none =>
      have hx0 : xs = [] := by
        obtain ⟨hle, hcm, h0 | ⟨g, rest, e, _⟩⟩ := hf
        · exact List.eq_nil_of_length_eq_zero (by omega)
        · cases e
      have hc0 : c = 0 := by
        obtain ⟨hle, hcm, h0 | ⟨g, rest, e, _⟩⟩ := hf
        · exact h0
        · cases e
      subst hx0 hc0
      have hrun := run_append_nil (P := P) w t ty E i z ht hi hz ⟨b, off, none⟩ ys.length c2 (flat ys) hl hnews (by omega) (by simp at h63'; omega) (by rw [hby]; simp at hbytes; omega)
      have hfr := fresh 0
      simp only [List.length_nil, Nat.zero_add, flat_nil, List.nil_append] at hfr hrun ⊢
      refine ⟨_, _, _, hrun, ⟨by simpa using hfr, gr _ _, .inr (rowOf_some ?_)⟩⟩
      have := grownCap_ge w ys.length 0 E
      omega
    | some ad =>
      have hov : ∀ j u, (flat xs)[j]? = some u → w.cell? (ad.add j) = some u := by
        intro j u hu
        have hlt := getElem?_lt hu
        rw [flat_length] at hlt
        obtain ⟨b', o', e, -, -⟩ := hf.rd (by rcases xs with _ | ⟨x, l⟩ <;> simp at hlt ⊢)
        injection e with e
        subst e
        exact hf.rd.news j u hu
      have hrun := run_append_grow (P := P) w t ty E i z ht hi hz ad xs.length c (flat xs) (by rw [flat_length, hsize]) hov ⟨b, off, none⟩ ys.length c2 (flat ys) hl hnews (by omega) (by omega) (by rw [hby]; exact growslice_fits (by omega) hbytes)
      refine ⟨_, _, _, hrun, ⟨fresh c, gr _ _, .inr (rowOf_some ?_)⟩⟩
      have := grownCap_ge w (xs.length + ys.length) c E
      omega

/-- At the operation. -/
theorem wp_append_fr {P : Program} (w : World) {o : Oper} {a : Act} {K : Act → World → Prop} {Q : Exit → Act → World → Prop} (s x : Operand) (t : TypeId)
    (ho : o.op = .call { callee := .builtin .append, args := #[s, x], argTypes := #[t, t] })
    (E : TypeId) (i : TypeInfo) (z : Value) (bytes B : Nat) (ht : P.underlying t = some (.slice E)) (hi : P.info? E = some i) (hz : i.zero = some z)
    (hsize : i.size = sz α) (hby : i.bytes = bytes) (hzs : z.cells.size = sz α)
    (A : Option Addr) (c n : Nat) (xs : List α) (hn : n = xs.length) (hs : a.eval s = .slice A n c) (hf : Fr E w B A c xs) (S : Option Addr) (c2 m : Nat) (ys : List α) (hm : m = ys.length) (hx : a.eval x = .slice S m c2) (hy : Rd w S ys)
    (h63 : n + m ≤ maxLen) (hbytes : (n + m) * bytes ≤ 140737488355328) (hbase : B ≤ w.heap.size)
    (h : ∀ A' c' w', Apd E w B A c (xs ++ ys) A' c' w' → K (a.put o.dst (.slice A' (n + m) c')) w') : o.wp P a w K Q := by
  subst hn hm
  obtain ⟨A', c', w', hr, h2⟩ := run_append_fr (P := P) w t o.type E i z bytes B ht hi hz hsize hby hzs A c xs hf S c2 ys hy h63 hbytes hbase
  unfold Oper.wp execOp
  simp only [ho, resolve, invoke, builtin, Sem.run_bind, Sem.run_pure, Result.andThen_ok, List.map_toArray, List.map_cons, List.map_nil, hs, hx, hr]
  exact h A' c' w' h2

theorem wpList_append_fr {P : Program} {w : World} {ops : Array Oper} {rest : List Oper} {o : Oper} {a : Act} {Q : Exit → Act → World → Prop} (hgd : o.guard = none) (s x : Operand) (t : TypeId)
    (ho : o.op = .call { callee := .builtin .append, args := #[s, x], argTypes := #[t, t] })
    (E : TypeId) (i : TypeInfo) (z : Value) (bytes B : Nat) (ht : P.underlying t = some (.slice E)) (hi : P.info? E = some i) (hz : i.zero = some z)
    (hsize : i.size = sz α) (hby : i.bytes = bytes) (hzs : z.cells.size = sz α)
    (A : Option Addr) (c n : Nat) (xs : List α) (hn : n = xs.length) (hs : a.eval s = .slice A n c) (hf : Fr E w B A c xs) (S : Option Addr) (c2 m : Nat) (ys : List α) (hm : m = ys.length) (hx : a.eval x = .slice S m c2) (hy : Rd w S ys)
    (h63 : n + m ≤ maxLen) (hbytes : (n + m) * bytes ≤ 140737488355328) (hbase : B ≤ w.heap.size)
    (h : ∀ A' c' w', Apd E w B A c (xs ++ ys) A' c' w' → wpList P ops Q rest (a.put o.dst (.slice A' (n + m) c')) w') : wpList P ops Q (o :: rest) a w :=
  wpList_plain hgd fun _ hK => wp_append_fr w s x t ho E i z bytes B ht hi hz hsize hby hzs A c n xs hn hs hf S c2 m ys hm hx hy h63 hbytes hbase fun A' c' w' h2 => hK _ _ (h A' c' w' h2)

theorem step_append_fr {P : Program} {w : World} {ops : Array Oper} {o : Oper} {a : Act} {K : Act → World → Prop} {Q : Exit → Act → World → Prop} {X : Prop} (hgd : o.guard = none) (s x : Operand) (t : TypeId)
    (ho : o.op = .call { callee := .builtin .append, args := #[s, x], argTypes := #[t, t] })
    (E : TypeId) (i : TypeInfo) (z : Value) (bytes B : Nat) (ht : P.underlying t = some (.slice E)) (hi : P.info? E = some i) (hz : i.zero = some z)
    (hsize : i.size = sz α) (hby : i.bytes = bytes) (hzs : z.cells.size = sz α)
    (A : Option Addr) (c n : Nat) (xs : List α) (hn : n = xs.length) (hs : a.eval s = .slice A n c) (hf : Fr E w B A c xs) (S : Option Addr) (c2 m : Nat) (ys : List α) (hm : m = ys.length) (hx : a.eval x = .slice S m c2) (hy : Rd w S ys)
    (h63 : n + m ≤ maxLen) (hbytes : (n + m) * bytes ≤ 140737488355328) (hbase : B ≤ w.heap.size)
    (h : ∀ A' c' w', Apd E w B A c (xs ++ ys) A' c' w' → K (a.put o.dst (.slice A' (n + m) c')) w') :
    if Region.wanted o (yielded ops a.tmps) = true then Oper.wp P o a w K Q else X := by
  have hw : Region.wanted o (yielded ops a.tmps) = true := by simp [Region.wanted, hgd]
  rw [if_pos hw]
  exact wp_append_fr w s x t ho E i z bytes B ht hi hz hsize hby hzs A c n xs hn hs hf S c2 m ys hm hx hy h63 hbytes hbase h
end
end Go.Proofs.YtihlaecbdlgbiaaDoor
