/- How rows and entries with their bytes are opened. -/
import Derived.Test.YtbiodlhiilmgkaaCt18
import Derived.Test.YtbiodlhiilmgkaaOpen3
namespace Go.Proofs.Ytbiodlhiilmgkaa
open Go.ChangeShapes Go.WideShapes Go.ChangeAt Go.RowKit
set_option linter.unusedVariables false
set_option linter.unusedSimpArgs false
open BigFrame Bs Rw Ct

structure XT_Rows where
  b : Int
  t : Int
  a : Option Addr
  n : Nat
  c : Nat
  l : List En
def Is_Rows (w : World) (v : Value) (x : XT_Rows) : Prop := v = .agg #[.int .i64 x.b, .int .i64 x.t, .slice x.a x.n x.c] ∧ I64 x.b ∧ I64 x.t ∧ Wfl x.l ∧ LAt w x.a x.n x.c x.l
structure XT_LEntry where
  a : Option Addr
  n : Nat
  c : Nat
  l : List En
def Is_LEntry (w : World) (v : Value) (x : XT_LEntry) : Prop := v = .slice x.a x.n x.c ∧ Wfl x.l ∧ LAt w x.a x.n x.c x.l
theorem ct_i64 {n : Int} (h : (Lit.int .i64 n).wf = true) : I64 n := by
  simp [Lit.wf, IntKind.min, IntKind.max, IntKind.signed, IntKind.bits] at h
  unfold I64
  omega
theorem ct_u8 {n : Int} (h : (Lit.int .u8 n).wf = true) : 0 ≤ n ∧ n ≤ 255 := by
  simp [Lit.wf, IntKind.min, IntKind.max, IntKind.signed, IntKind.bits] at h
  omega
theorem ct_len5 {l : List Value} (h : l.length = 5) : ∃ x0 x1 x2 x3 x4, l = [x0, x1, x2, x3, x4] := by
  match l, h with
  | [x0, x1, x2, x3, x4], _ => exact ⟨_, _, _, _, _, rfl⟩
theorem ct_len3 {l : List Value} (h : l.length = 3) : ∃ x0 x1 x2, l = [x0, x1, x2] := by
  match l, h with
  | [x0, x1, x2], _ => exact ⟨_, _, _, rfl⟩
section
variable {H : Type} {enc : TypeId × Value → H} {w : World}
set_option maxRecDepth 100000 in
theorem open_bytes {n : Nat} {u : Value} {z : DataW H × List MemPlace} (h : DataW.trod enc Try.prog w 0 (fun _ => true) true n 37 [u] = some z) :
    ∃ a l c d, u = .slice a l c ∧ Byt w a l c d := by
  have k1 : Try.prog.cellsOf 5 = 1 := by kernel_rfl
  obtain ⟨a, len, cap, rfl, hl, hm, hrow⟩ := open_rowsN Try.underlying37 h (by rw [k1]; omega)
  rw [k1] at hrow
  unfold maxLen at hm
  by_cases hp : 0 < len
  · obtain ⟨b, off, V, n, rfl, hb, hV⟩ := hrow hp
    refine ⟨_, len, cap, (List.range len).map (fun i => (intOf ((V i).getD 0 undef)).toNat), rfl, by simp, hl, hm, fun _ => ⟨b, off, rfl, hb, fun i x hx => ?_⟩⟩
    have hi : i < len := by have := (List.getElem?_eq_some_iff.1 hx).1; simpa using this
    simp [hi] at hx
    subst hx
    obtain ⟨q1, q2, z, q3⟩ := hV i (by omega)
    obtain ⟨x, hx⟩ : ∃ x, V i = [x] := List.length_eq_one_iff.1 q1
    rw [hx] at q2 q3
    obtain ⟨e4, f4⟩ := trod_int' Try.underlying5 q3
    have hb4 := ct_u8 f4
    have hc := q2 0 x rfl
    have hg : (intOf ((V i).getD 0 undef)).toNat = (intOf x).toNat := by rw [hx]; rfl
    have hg' : (intOf ((V i)[0]?.getD undef)).toNat = (intOf x).toNat := by rw [hx]; rfl
    rw [hg']
    refine ⟨?_, by omega⟩
    rw [e4] at hc
    rw [show (((intOf x).toNat : Nat) : Int) = intOf x by omega]
    simpa using hc
  · obtain rfl : len = 0 := by omega
    exact ⟨a, 0, cap, [], rfl, Byt.nil _ _ _ hm⟩
set_option maxRecDepth 100000 in
theorem open_en {n : Nat} {l : List Value} {z : DataW H × List MemPlace} (hl : l.length = 5) (h : DataW.trod enc Try.prog w 0 (fun _ => true) true n 39 l = some z) :
    ∃ (x : Ent) (y : En), Has w x y ∧ I64 y.term ∧ I64 y.stamp ∧ l = cellsE x := by
  obtain ⟨_, m, hf⟩ := trod_fields Try.underlying39 h
  obtain ⟨x0, x1, x2, x3, x4, rfl⟩ := ct_len5 hl
  have k0 : Try.prog.cellsOf 3 = 1 := by kernel_rfl
  have k1 : Try.prog.cellsOf 36 = 1 := by kernel_rfl
  have k3 : Try.prog.cellsOf 5 = 1 := by kernel_rfl
  have k4 : Try.prog.cellsOf 37 = 1 := by kernel_rfl
  obtain ⟨y0, t0⟩ := hf 0 _ rfl
  obtain ⟨y1, t1⟩ := hf 1 _ rfl
  obtain ⟨y2, t2⟩ := hf 2 _ rfl
  obtain ⟨y3, t3⟩ := hf 3 _ rfl
  obtain ⟨y4, t4⟩ := hf 4 _ rfl
  simp only [k0, k1, k3, k4, List.drop_zero, List.drop_succ_cons, List.take_succ_cons, List.take_zero, List.getElem_toArray, List.getElem_cons_zero, List.getElem_cons_succ] at t0 t1 t2 t3 t4
  obtain ⟨e0, f0⟩ := trod_int' Try.underlying3 t0
  obtain ⟨e1, f1⟩ := trod_int' Try.underlying36 t1
  obtain ⟨e2, f2⟩ := trod_int' Try.underlying3 t2
  obtain ⟨e3, f3⟩ := trod_int' Try.underlying5 t3
  obtain ⟨a, dl, dc, d, rfl, hB⟩ := open_bytes t4
  refine ⟨⟨intOf x0, intOf x1, intOf x2, intOf x3, a, dl, dc⟩, ⟨intOf x0, intOf x1, intOf x2, intOf x3, d⟩, ⟨rfl, rfl, rfl, rfl, hB⟩, ct_i64 f0, ct_i64 f2, ?_⟩
  simp only [cellsE]
  rw [← e0, ← e1, ← e2, ← e3]
set_option maxRecDepth 100000 in
theorem open_es {n : Nat} {u : Value} {z : DataW H × List MemPlace} (h : DataW.trod enc Try.prog w 0 (fun _ => true) true n 22 [u] = some z) :
    ∃ a len cap l, u = .slice a len cap ∧ Wfl l ∧ LAt w a len cap l := by
  have k5 : Try.prog.cellsOf 39 = 5 := by kernel_rfl
  obtain ⟨a, len, cap, rfl, hl, hm, hrow⟩ := open_rowsN Try.underlying22 h (by rw [k5]; omega)
  rw [k5] at hrow
  unfold maxLen at hm
  by_cases hp : 0 < len
  · obtain ⟨b, off, V, n, rfl, hb, hV⟩ := hrow hp
    have hE : ∀ i, ∃ q : Ent × En, i < cap → Has w q.1 q.2 ∧ I64 q.2.term ∧ I64 q.2.stamp ∧ V i = cellsE q.1 := fun i => by
      by_cases hi : i < cap
      · obtain ⟨q1, _, z, q3⟩ := hV i hi
        obtain ⟨x, y, r1, r2, r3, r4⟩ := open_en q1 q3
        exact ⟨(x, y), fun _ => ⟨r1, r2, r3, r4⟩⟩
      · exact ⟨(⟨0, 0, 0, 0, none, 0, 0⟩, en0), fun h => absurd h hi⟩
    obtain ⟨e, he⟩ := Classical.axiomOfChoice hE
    refine ⟨_, len, cap, (List.range len).map (fun i => (e i).2), rfl, ?_, (List.range len).map (fun i => (e i).1), ⟨by simp, hl, hm, fun _ => ⟨b, off, rfl, hb, fun i x hx => ?_⟩⟩, by simp, fun i x y hx hy => ?_⟩
    · intro y hy
      obtain ⟨i, hi, rfl⟩ := List.mem_map.1 hy
      have hi' : i < len := by simpa using hi
      obtain ⟨_, h2, h3, _⟩ := he i (by omega)
      exact ⟨h2, h3⟩
    · have hi : i < len := by have := (List.getElem?_eq_some_iff.1 hx).1; simpa using this
      simp [hi] at hx
      subst hx
      obtain ⟨_, q2, _⟩ := hV i (by omega)
      obtain ⟨_, _, _, h4⟩ := he i (by omega)
      rw [h4] at q2
      refine ⟨?_, ?_, ?_, ?_, ?_⟩
      · have := q2 0 _ rfl; rwa [Nat.add_zero] at this
      · have := q2 1 _ rfl; rwa [← Nat.add_assoc] at this
      · have := q2 2 _ rfl; rwa [← Nat.add_assoc] at this
      · have := q2 3 _ rfl; rwa [← Nat.add_assoc] at this
      · have := q2 4 _ rfl; rwa [← Nat.add_assoc] at this
    · have hi : i < len := by have := (List.getElem?_eq_some_iff.1 hx).1; simpa using this
      simp [hi] at hx hy
      subst hx; subst hy
      exact (he i (by omega)).1
  · obtain rfl : len = 0 := by omega
    exact ⟨a, 0, cap, [], rfl, (fun y hy => by simp at hy), LAt.nil _ _ _ hm⟩
set_option maxRecDepth 100000 in
theorem open_LEntry {r : Reach} {b0 : Nat} {v : Value} {d : DataW H} {p : List MemPlace} (hv : Value.okWide Try.prog w r b0 22 v) (h : DataW.Trod enc Try.prog w 0 (fun _ => true) true 22 v d p) : ∃ x, Is_LEntry w v x := by
  obtain ⟨a0, len0, cap0, rfl⟩ := okWide_slice Try.underlying22 hv
  obtain ⟨fuel, hf⟩ := h
  obtain ⟨a, len, cap, l, he, h1, h2⟩ := open_es (u := .slice a0 len0 cap0) hf
  cases he
  exact ⟨⟨a0, len0, cap0, l⟩, rfl, h1, h2⟩
set_option maxRecDepth 100000 in
theorem open_Rows {r : Reach} {b0 : Nat} {v : Value} {d : DataW H} {p : List MemPlace} (hv : Value.okWide Try.prog w r b0 24 v) (h : DataW.Trod enc Try.prog w 0 (fun _ => true) true 24 v d p) : ∃ x, Is_Rows w v x := by
  obtain ⟨cs, rfl, hsz, m, hf⟩ := open_struct Try.underlying24 hv h
  rw [show Try.prog.cellsOf 24 = 3 by kernel_rfl] at hsz
  obtain ⟨x0, x1, x2, rfl⟩ := ct_len3 hsz
  have k0 : Try.prog.cellsOf 3 = 1 := by kernel_rfl
  have k2 : Try.prog.cellsOf 22 = 1 := by kernel_rfl
  obtain ⟨y0, t0⟩ := hf 0 _ rfl
  obtain ⟨y1, t1⟩ := hf 1 _ rfl
  obtain ⟨y2, t2⟩ := hf 2 _ rfl
  simp only [k0, k2, List.drop_zero, List.drop_succ_cons, List.take_succ_cons, List.take_zero, List.getElem_toArray, List.getElem_cons_zero, List.getElem_cons_succ] at t0 t1 t2
  obtain ⟨e0, f0⟩ := trod_int' Try.underlying3 t0
  obtain ⟨e1, f1⟩ := trod_int' Try.underlying3 t1
  obtain ⟨a, len, cap, l, rfl, h1, h2⟩ := open_es t2
  refine ⟨⟨intOf x0, intOf x1, a, len, cap, l⟩, ?_, ct_i64 f0, ct_i64 f1, h1, h2⟩
  simp only
  rw [← e0, ← e1]
end
end Go.Proofs.Ytbiodlhiilmgkaa
