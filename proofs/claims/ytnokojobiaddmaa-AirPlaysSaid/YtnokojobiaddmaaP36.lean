/- Acts with messages: how the law's argument is opened. -/
import Derived.Test.YtnokojobiaddmaaP35
import Derived.Test.YtnokojobiaddmaaOpen3
import Derived.SizedLaws
namespace Go.Proofs.Ytnokojobiaddmaa
open Go.ChangeShapes Go.WideShapes Go.ChangeAt Go.RowKit Go.Deep
set_option linter.unusedVariables false
set_option linter.unusedSimpArgs false
open BigFrame Bs By Am Ar

theorem p_u8 {n : Int} (h : (Lit.int .u8 n).wf = true) : 0 ≤ n ∧ n ≤ 255 := by
  simp [Lit.wf, IntKind.min, IntKind.max, IntKind.signed, IntKind.bits] at h
  omega
theorem p_len4 {l : List Value} (h : l.length = 4) : ∃ x0 x1 x2 x3, l = [x0, x1, x2, x3] := by
  match l, h with
  | [x0, x1, x2, x3], _ => exact ⟨_, _, _, _, rfl⟩
theorem p_len5 {l : List Value} (h : l.length = 5) : ∃ x0 x1 x2 x3 x4, l = [x0, x1, x2, x3, x4] := by
  match l, h with
  | [x0, x1, x2, x3, x4], _ => exact ⟨_, _, _, _, _, rfl⟩
theorem p_len14 {l : List Value} (h : l.length = 14) : ∃ x0 x1 x2 x3 x4 x5 x6 x7 x8 x9 x10 x11 x12 x13, l = [x0, x1, x2, x3, x4, x5, x6, x7, x8, x9, x10, x11, x12, x13] := by
  match l, h with
  | [x0, x1, x2, x3, x4, x5, x6, x7, x8, x9, x10, x11, x12, x13], _ => exact ⟨_, _, _, _, _, _, _, _, _, _, _, _, _, _, rfl⟩
theorem p_len16 {l : List Value} (h : l.length = 16) : ∃ x0 x1 x2 x3 x4 x5 x6 x7 x8 x9 x10 x11 x12 x13 x14 x15, l = [x0, x1, x2, x3, x4, x5, x6, x7, x8, x9, x10, x11, x12, x13, x14, x15] := by
  match l, h with
  | [x0, x1, x2, x3, x4, x5, x6, x7, x8, x9, x10, x11, x12, x13, x14, x15], _ => exact ⟨_, _, _, _, _, _, _, _, _, _, _, _, _, _, _, _, rfl⟩
structure XT_LAct where
  a : Option Addr
  n : Nat
  c : Nat
  f : Nat → Ac
def Is_LAct (w : World) (v : Value) (x : XT_LAct) : Prop := v = .slice x.a x.n x.c ∧ x.n ≤ x.c ∧ x.c ≤ 9223372036854775807 ∧ AcAt w x.a x.n x.f
def ac0 : Ac := ⟨0, 0, mg0, none, 0, 0, none, 0, 0, none, 0, 0⟩
section
variable {H : Type} {enc : TypeId × Value → H} {w : World}
set_option maxRecDepth 100000 in
theorem p_bytes {n : Nat} {u : Value} {z : DataW H × List MemPlace} (h : DataW.trod enc Try.prog w 0 (fun _ => true) true n 30 [u] = some z) :
    ∃ a l c d, u = .slice a l c ∧ Byt w a l c d := by
  have k1 : Try.prog.cellsOf 5 = 1 := by kernel_rfl
  obtain ⟨a, len, cap, rfl, hl, hm, hrow⟩ := open_rowsN Try.underlying30 h (by rw [k1]; omega)
  rw [k1] at hrow
  unfold maxLen at hm
  by_cases hp : 0 < len
  · obtain ⟨b, off, V, n, rfl, hb, hV⟩ := hrow hp
    refine ⟨_, len, cap, (List.range len).map (fun i => (RowKit.intOf ((V i).getD 0 undef)).toNat), rfl, by simp, hl, hm, fun _ => ⟨b, off, rfl, hb, fun i x hx => ?_⟩⟩
    have hi : i < len := by have := (List.getElem?_eq_some_iff.1 hx).1; simpa using this
    simp [hi] at hx
    subst hx
    obtain ⟨q1, q2, z, q3⟩ := hV i (by omega)
    obtain ⟨x, hx⟩ : ∃ x, V i = [x] := List.length_eq_one_iff.1 q1
    rw [hx] at q2 q3
    obtain ⟨e4, f4⟩ := trod_int' Try.underlying5 q3
    have hb4 := p_u8 f4
    have hc := q2 0 x rfl
    have hg' : (RowKit.intOf ((V i)[0]?.getD undef)).toNat = (RowKit.intOf x).toNat := by rw [hx]; rfl
    rw [hg']
    refine ⟨?_, by omega⟩
    rw [e4] at hc
    rw [show (((RowKit.intOf x).toNat : Nat) : Int) = RowKit.intOf x by omega]
    simpa using hc
  · obtain rfl : len = 0 := by omega
    exact ⟨a, 0, cap, [], rfl, Byt.nil _ _ _ hm⟩
set_option maxRecDepth 100000 in
theorem p_en {n : Nat} {l : List Value} {z : DataW H × List MemPlace} (hl : l.length = 5) (h : DataW.trod enc Try.prog w 0 (fun _ => true) true n 69 l = some z) :
    ∃ (x : Ent) (y : En), (SameE x y ∧ Byt w x.da x.dl x.dc y.d) ∧ l = cellsE x := by
  obtain ⟨_, m, hf⟩ := trod_fields Try.underlying69 h
  obtain ⟨x0, x1, x2, x3, x4, rfl⟩ := p_len5 hl
  have k0 : Try.prog.cellsOf 3 = 1 := by kernel_rfl
  have k1 : Try.prog.cellsOf 28 = 1 := by kernel_rfl
  have k2 : Try.prog.cellsOf 4 = 1 := by kernel_rfl
  have k3 : Try.prog.cellsOf 5 = 1 := by kernel_rfl
  have k4 : Try.prog.cellsOf 30 = 1 := by kernel_rfl
  have k5 : Try.prog.cellsOf 29 = 1 := by kernel_rfl
  have k6 : Try.prog.cellsOf 32 = 4 := by kernel_rfl
  have k7 : Try.prog.cellsOf 34 = 14 := by kernel_rfl
  obtain ⟨y0, t0⟩ := hf 0 _ rfl
  obtain ⟨y1, t1⟩ := hf 1 _ rfl
  obtain ⟨y2, t2⟩ := hf 2 _ rfl
  obtain ⟨y3, t3⟩ := hf 3 _ rfl
  obtain ⟨y4, t4⟩ := hf 4 _ rfl
  simp only [k0, k1, k3, k4, List.drop_zero, List.drop_succ_cons, List.take_succ_cons, List.take_zero, List.getElem_toArray, List.getElem_cons_zero, List.getElem_cons_succ] at t0 t1 t2 t3 t4
  obtain ⟨e0, f0⟩ := trod_int' Try.underlying3 t0
  obtain ⟨e1, f1⟩ := trod_int' Try.underlying28 t1
  obtain ⟨e2, f2⟩ := trod_int' Try.underlying3 t2
  obtain ⟨e3, f3⟩ := trod_int' Try.underlying5 t3
  obtain ⟨a, dl, dc, d, rfl, hB⟩ := p_bytes t4
  refine ⟨⟨RowKit.intOf x0, RowKit.intOf x1, RowKit.intOf x2, RowKit.intOf x3, a, dl, dc⟩, ⟨RowKit.intOf x0, RowKit.intOf x1, RowKit.intOf x2, RowKit.intOf x3, d⟩, ⟨⟨rfl, rfl, rfl, rfl⟩, hB⟩, ?_⟩
  simp only [cellsE]
  rw [← e0, ← e1, ← e2, ← e3]
set_option maxRecDepth 100000 in
theorem p_es {n : Nat} {u : Value} {z : DataW H × List MemPlace} (h : DataW.trod enc Try.prog w 0 (fun _ => true) true n 29 [u] = some z) :
    ∃ a len cap l, u = .slice a len cap ∧ LA w a len cap l := by
  have k5 : Try.prog.cellsOf 69 = 5 := by kernel_rfl
  obtain ⟨a, len, cap, rfl, hl, hm, hrow⟩ := open_rowsN Try.underlying29 h (by rw [k5]; omega)
  rw [k5] at hrow
  unfold maxLen at hm
  by_cases hp : 0 < len
  · obtain ⟨b, off, V, n, rfl, hb, hV⟩ := hrow hp
    have hE : ∀ i, ∃ q : Ent × En, i < cap → (SameE q.1 q.2 ∧ Byt w q.1.da q.1.dl q.1.dc q.2.d) ∧ V i = cellsE q.1 := fun i => by
      by_cases hi : i < cap
      · obtain ⟨q1, _, z, q3⟩ := hV i hi
        obtain ⟨x, y, r1, r2⟩ := p_en q1 q3
        exact ⟨(x, y), fun _ => ⟨r1, r2⟩⟩
      · exact ⟨(⟨0, 0, 0, 0, none, 0, 0⟩, ⟨0, 0, 0, 0, []⟩), fun h => absurd h hi⟩
    obtain ⟨e, he⟩ := Classical.axiomOfChoice hE
    refine ⟨_, len, cap, (List.range len).map (fun i => (e i).2), rfl, by simp, hl, hm, (List.range len).map (fun i => (e i).1), by simp, fun i x y hx hy => ?_, fun _ => ⟨b, off, rfl, hb, fun j u hu => ?_⟩⟩
    · have hi : i < len := by have := (List.getElem?_eq_some_iff.1 hx).1; simpa using this
      simp [hi] at hx hy
      subst hx; subst hy
      exact (he i (by omega)).1
    · have hj : j < len * 5 := by have := (List.getElem?_eq_some_iff.1 hu).1; rw [rowE_len] at this; simpa using this
      have hi : j / 5 < len := by omega
      have hx : ((List.range len).map (fun i => (e i).1))[j / 5]? = some (e (j / 5)).1 := by simp [hi]
      have hjj : j = j / 5 * 5 + j % 5 := by omega
      have ha := rowE_at _ (j / 5) (j % 5) _ hx (Nat.mod_lt _ (by omega))
      rw [← hjj, hu] at ha
      obtain ⟨_, q2, _⟩ := hV (j / 5) (by omega)
      obtain ⟨_, h4⟩ := he (j / 5) (by omega)
      rw [h4] at q2
      have := q2 (j % 5) u ha.symm
      rwa [← hjj] at this
  · obtain rfl : len = 0 := by omega
    exact ⟨a, 0, cap, [], rfl, LA.nil _ _ _ hm⟩
set_option maxRecDepth 100000 in
set_option maxHeartbeats 2000000 in
theorem p_msg {n : Nat} {l : List Value} {z : DataW H × List MemPlace} (hl : l.length = 14) (h : DataW.trod enc Try.prog w 0 (fun _ => true) true n 34 l = some z) :
    ∃ (x : Mg) (ea : Option Addr) (en ec : Nat) (sa : Option Addr) (sn sc : Nat) (da : Option Addr) (dn dc : Nat), IsM w ⟨x.f, ea, en, ec, sa, sn, sc, da, dn, dc⟩ x ∧ l = cellsM ⟨x.f, ea, en, ec, sa, sn, sc, da, dn, dc⟩ := by
  obtain ⟨_, m, hf⟩ := trod_fields Try.underlying34 h
  obtain ⟨x0, x1, x2, x3, x4, x5, x6, x7, x8, x9, x10, x11, x12, x13, rfl⟩ := p_len14 hl
  have k0 : Try.prog.cellsOf 3 = 1 := by kernel_rfl
  have k1 : Try.prog.cellsOf 28 = 1 := by kernel_rfl
  have k2 : Try.prog.cellsOf 4 = 1 := by kernel_rfl
  have k3 : Try.prog.cellsOf 5 = 1 := by kernel_rfl
  have k4 : Try.prog.cellsOf 30 = 1 := by kernel_rfl
  have k5 : Try.prog.cellsOf 29 = 1 := by kernel_rfl
  have k6 : Try.prog.cellsOf 32 = 4 := by kernel_rfl
  have k7 : Try.prog.cellsOf 34 = 14 := by kernel_rfl
  obtain ⟨y0, t0⟩ := hf 0 _ rfl
  obtain ⟨y1, t1⟩ := hf 1 _ rfl
  obtain ⟨y2, t2⟩ := hf 2 _ rfl
  obtain ⟨y3, t3⟩ := hf 3 _ rfl
  obtain ⟨y4, t4⟩ := hf 4 _ rfl
  obtain ⟨y5, t5⟩ := hf 5 _ rfl
  obtain ⟨y6, t6⟩ := hf 6 _ rfl
  obtain ⟨y7, t7⟩ := hf 7 _ rfl
  obtain ⟨y8, t8⟩ := hf 8 _ rfl
  obtain ⟨y9, t9⟩ := hf 9 _ rfl
  obtain ⟨y10, t10⟩ := hf 10 _ rfl
  simp only [k0, k1, k2, k3, k4, k5, k6, List.drop_zero, List.drop_succ_cons, List.take_succ_cons, List.take_zero, List.getElem_toArray, List.getElem_cons_zero, List.getElem_cons_succ] at t0 t1 t2 t3 t4 t5 t6 t7 t8 t9 t10
  obtain ⟨_, m2, hg⟩ := trod_fields Try.underlying32 t9
  obtain ⟨z0, s0⟩ := hg 0 _ rfl
  obtain ⟨z1, s1⟩ := hg 1 _ rfl
  obtain ⟨z2, s2⟩ := hg 2 _ rfl
  obtain ⟨z3, s3⟩ := hg 3 _ rfl
  simp only [k0, k1, k2, k3, k4, k5, k6, List.drop_zero, List.drop_succ_cons, List.take_succ_cons, List.take_zero, List.getElem_toArray, List.getElem_cons_zero, List.getElem_cons_succ] at s0 s1 s2 s3
  obtain ⟨e0, f0⟩ := trod_int' Try.underlying28 t0
  obtain ⟨e1, f1⟩ := trod_int' Try.underlying3 t1
  obtain ⟨e2, f2⟩ := trod_int' Try.underlying3 t2
  obtain ⟨e3, f3⟩ := trod_int' Try.underlying3 t3
  obtain ⟨e4, f4⟩ := trod_int' Try.underlying3 t4
  obtain ⟨e5, f5⟩ := trod_int' Try.underlying3 t5
  obtain ⟨e6, f6⟩ := trod_int' Try.underlying3 t6
  obtain ⟨b7, rfl⟩ := trod_bool' Try.underlying4 t7
  obtain ⟨a, len, cap, es, rfl, hE⟩ := p_es t8
  obtain ⟨e9, f9⟩ := trod_int' Try.underlying3 s0
  obtain ⟨e10, f10⟩ := trod_int' Try.underlying3 s1
  obtain ⟨e11, f11⟩ := trod_int' Try.underlying5 s2
  obtain ⟨a2, l2, c2, sd, rfl, hS⟩ := p_bytes s3
  obtain ⟨a3, l3, c3, dd, rfl, hD⟩ := p_bytes t10
  refine ⟨⟨⟨RowKit.intOf x0, RowKit.intOf x1, RowKit.intOf x2, RowKit.intOf x3, RowKit.intOf x4, RowKit.intOf x5, RowKit.intOf x6, b7, RowKit.intOf x9, RowKit.intOf x10, RowKit.intOf x11⟩, es, sd, dd⟩, a, len, cap, a2, l2, c2, a3, l3, c3, ⟨rfl, hE, hS, hD⟩, ?_⟩
  simp only [cellsM]
  rw [← e0, ← e1, ← e2, ← e3, ← e4, ← e5, ← e6, ← e9, ← e10, ← e11]
set_option maxRecDepth 100000 in
set_option maxHeartbeats 2000000 in
theorem p_act {n : Nat} {l : List Value} {z : DataW H × List MemPlace} (hl : l.length = 16) (h : DataW.trod enc Try.prog w 0 (fun _ => true) true n 55 l = some z) :
    ∃ y : Ac, IsM w y.r y.x ∧ l = actL y := by
  obtain ⟨_, m, hf⟩ := trod_fields Try.underlying55 h
  obtain ⟨x0, x1, x2, x3, x4, x5, x6, x7, x8, x9, x10, x11, x12, x13, x14, x15, rfl⟩ := p_len16 hl
  have k0 : Try.prog.cellsOf 3 = 1 := by kernel_rfl
  have k1 : Try.prog.cellsOf 28 = 1 := by kernel_rfl
  have k2 : Try.prog.cellsOf 4 = 1 := by kernel_rfl
  have k3 : Try.prog.cellsOf 5 = 1 := by kernel_rfl
  have k4 : Try.prog.cellsOf 30 = 1 := by kernel_rfl
  have k5 : Try.prog.cellsOf 29 = 1 := by kernel_rfl
  have k6 : Try.prog.cellsOf 32 = 4 := by kernel_rfl
  have k7 : Try.prog.cellsOf 34 = 14 := by kernel_rfl
  obtain ⟨y0, t0⟩ := hf 0 _ rfl
  obtain ⟨y1, t1⟩ := hf 1 _ rfl
  obtain ⟨y2, t2⟩ := hf 2 _ rfl
  simp only [k0, k7, List.drop_zero, List.drop_succ_cons, List.take_succ_cons, List.take_zero, List.getElem_toArray, List.getElem_cons_zero, List.getElem_cons_succ] at t0 t1 t2
  obtain ⟨e0, f0⟩ := trod_int' Try.underlying3 t0
  obtain ⟨e1, f1⟩ := trod_int' Try.underlying3 t1
  obtain ⟨x, ea, en, ec, sa, sn, sc, da, dn, dc, hI, he⟩ := p_msg (by rfl) t2
  refine ⟨⟨RowKit.intOf x0, RowKit.intOf x1, x, ea, en, ec, sa, sn, sc, da, dn, dc⟩, hI, ?_⟩
  show x0 :: x1 :: [x2, x3, x4, x5, x6, x7, x8, x9, x10, x11, x12, x13, x14, x15] = .int .i64 (RowKit.intOf x0) :: .int .i64 (RowKit.intOf x1) :: cellsM ⟨x.f, ea, en, ec, sa, sn, sc, da, dn, dc⟩
  rw [← e0, ← e1, he]

set_option maxRecDepth 100000 in
theorem open_LAct {r : Reach} {b0 : Nat} {v : Value} {d : DataW H} {p : List MemPlace} (hv : Value.okWide Try.prog w r b0 46 v) (h : DataW.Trod enc Try.prog w 0 (fun _ => true) true 46 v d p) : ∃ x, Is_LAct w v x := by
  obtain ⟨a0, len0, cap0, rfl⟩ := okWide_slice Try.underlying46 hv
  obtain ⟨fuel, hf⟩ := h
  have k6 : Try.prog.cellsOf 55 = 16 := by kernel_rfl
  obtain ⟨a, len, cap, e, hl, hm, hrow⟩ := open_rowsN (u := .slice a0 len0 cap0) Try.underlying46 hf (by rw [k6]; omega)
  cases e
  rw [k6] at hrow
  unfold maxLen at hm
  by_cases hp : 0 < len0
  · obtain ⟨b, off, V, n, rfl, hb, hV⟩ := hrow hp
    have hE : ∀ i, ∃ y : Ac, i < cap0 → IsM w y.r y.x ∧ V i = actL y := fun i => by
      by_cases hi : i < cap0
      · obtain ⟨q1, _, z, q3⟩ := hV i hi
        obtain ⟨y, r1, r2⟩ := p_act q1 q3
        exact ⟨y, fun _ => ⟨r1, r2⟩⟩
      · exact ⟨ac0, fun h => absurd h hi⟩
    obtain ⟨f, hf'⟩ := Classical.axiomOfChoice hE
    refine ⟨⟨_, len0, cap0, f⟩, rfl, hl, hm, ⟨fun _ => ⟨b, off, rfl, hb, fun i hi j v hj => ?_⟩, fun i hi => (hf' i (by simp only at hi; omega)).1⟩⟩
    simp only at hi
    obtain ⟨_, q2, _⟩ := hV i (by omega)
    rw [(hf' i (by omega)).2] at q2
    have := q2 j v hj
    rwa [← Nat.add_assoc] at this
  · exact ⟨⟨a0, len0, cap0, fun _ => ac0⟩, rfl, hl, hm, ⟨fun h => absurd h hp, fun i hi => absurd hi (by simp only at *; omega)⟩⟩
theorem wt_all {P : Program} {e : TypeId} : ∀ {ds : List (DataW H)} {d : DataW H}, d ∈ ds → ∀ n ∈ d.weights P e, n ∈ DataW.weightsAll P e ds
  | d0 :: ds, d, hd, n, hn => by
    simp only [DataW.weightsAll, List.mem_append]
    rcases List.mem_cons.1 hd with rfl | hd
    · exact .inl hn
    · exact .inr (wt_all hd n hn)
  | [], _, hd, _, _ => by simp at hd
set_option maxRecDepth 100000 in
theorem wt_bytes {n : Nat} {a : Option Addr} {l c : Nat} {z : DataW H × List MemPlace} (h : DataW.trod enc Try.prog w 0 (fun _ => true) true n 30 [.slice a l c] = some z) (hw : ∀ k ∈ z.1.weights Try.prog 30, k ≤ reachBytes) : l ≤ reachBytes := by
  have k1 : Try.prog.bytesOf 5 = 1 := by kernel_rfl
  rcases open_slice Try.underlying30 h with ⟨hcs, _⟩ | ⟨x, l', c', m, n, D, Pl, hcs, _, hl, hm, hmm, hz, hi⟩
  · simp at hcs
    omega
  · simp at hcs
    obtain ⟨_, rfl, rfl⟩ := hcs
    subst hz
    have := hw ((l + (m - l)) * 1) (by simp [DataW.weights, Try.underlying30, k1])
    omega
set_option maxRecDepth 100000 in
theorem wt_entry {n : Nat} {cs : List Value} {a : Option Addr} {l c : Nat} {z : DataW H × List MemPlace} (hl : cs.length = 5) (h4 : cs[4]? = some (.slice a l c)) (h : DataW.trod enc Try.prog w 0 (fun _ => true) true n 69 cs = some z) (hw : ∀ k ∈ z.1.weights Try.prog 69, k ≤ reachBytes) : l ≤ reachBytes := by
  obtain ⟨xs, n', _, hx, _, hlen, hg⟩ := DataW.trod_struct Try.underlying69 h
  subst hx
  have k4 : Try.prog.cellsOf 30 = 1 := by kernel_rfl
  obtain ⟨x0, x1, x2, x3, x4, rfl⟩ := p_len5 hl
  simp at h4
  subst h4
  have t4 := hg 4 _ rfl
  simp only [k4, List.drop_zero, List.drop_succ_cons, List.take_succ_cons, List.take_zero, List.getElem_toArray, List.getElem_cons_zero, List.getElem_cons_succ] at t4
  have hx4 : 4 < xs.length := by rw [hlen]; decide
  rw [List.getElem?_eq_getElem hx4] at t4
  refine wt_bytes t4 (fun k hk => hw k ?_)
  simp only [DataW.weights, Try.underlying69]
  exact DataW.weights_mem_each (j := 4) (t := 30) (by rfl) (by rw [List.getElem?_map, List.getElem?_eq_getElem hx4]; rfl) k hk
set_option maxRecDepth 100000 in
theorem wt_es {n : Nat} {a : Option Addr} {len cap : Nat} {l : List En} {z : DataW H × List MemPlace} (hL : LA w a len cap l) (h : DataW.trod enc Try.prog w 0 (fun _ => true) true n 29 [.slice a len cap] = some z) (hw : ∀ k ∈ z.1.weights Try.prog 29, k ≤ reachBytes) : len ≤ reachBytes ∧ ∀ y ∈ l, y.d.length ≤ reachBytes := by
  have k5 : Try.prog.cellsOf 69 = 5 := by kernel_rfl
  have kb : Try.prog.bytesOf 69 = 56 := by kernel_rfl
  have hll := hL.len
  rcases open_slice Try.underlying29 h with ⟨hcs, _⟩ | ⟨x', l', c', m, n, D, Pl, hcs, _, hl, hm, hmm, hz, hi'⟩
  · simp at hcs
    obtain ⟨_, rfl, _⟩ := hcs
    refine ⟨Nat.zero_le _, fun y hy => ?_⟩
    have : l = [] := List.eq_nil_of_length_eq_zero hll.symm
    subst this
    simp at hy
  · simp at hcs
    obtain ⟨hxa, rfl, rfl⟩ := hcs
    simp only [if_true] at hmm
    subst hmm
    subst hz
    refine ⟨?_, fun y hy => ?_⟩
    · have := hw ((len + (m - len)) * 56) (by simp [DataW.weights, Try.underlying29, kb])
      omega
    · obtain ⟨i, hi, rfl⟩ := List.getElem_of_mem hy
      obtain ⟨b, o, xa, xn, xc, ha, hb, _, _, _, _, q4, hbyt⟩ := hL.ent (List.getElem?_eq_getElem hi)
      rw [ha] at hxa
      cases hxa
      obtain ⟨cs', h1, h2⟩ := hi' i (by omega)
      rw [k5] at h1
      obtain ⟨_, hlen, hat⟩ := World.cells?_some h1
      have h4 := hat 4 (by omega)
      rw [Addr.add_lit, Addr.add_lit, q4] at h4
      rw [← hbyt.len]
      refine wt_entry hlen h4.symm h2 (fun k hk => hw k ?_)
      simp only [DataW.weights, Try.underlying29, List.mem_cons, List.mem_append]
      refine .inr (.inl (wt_all (List.mem_map.2 ⟨i, by simp; omega, rfl⟩) k hk))
set_option maxRecDepth 100000 in
set_option maxHeartbeats 2000000 in
theorem wt_msg {n : Nat} {z : DataW H × List MemPlace} (y : Ac) (hI : IsM w y.r y.x) (h : DataW.trod enc Try.prog w 0 (fun _ => true) true n 34 (cellsM y.r) = some z) (hw : ∀ k ∈ z.1.weights Try.prog 34, k ≤ reachBytes) : Sz y := by
  obtain ⟨xs, n', _, hx, _, hlen, hg⟩ := DataW.trod_struct Try.underlying34 h
  subst hx
  have k0 : Try.prog.cellsOf 3 = 1 := by kernel_rfl
  have k1 : Try.prog.cellsOf 28 = 1 := by kernel_rfl
  have k2 : Try.prog.cellsOf 4 = 1 := by kernel_rfl
  have k3 : Try.prog.cellsOf 5 = 1 := by kernel_rfl
  have k4 : Try.prog.cellsOf 30 = 1 := by kernel_rfl
  have k5 : Try.prog.cellsOf 29 = 1 := by kernel_rfl
  have k6 : Try.prog.cellsOf 32 = 4 := by kernel_rfl
  have k7 : Try.prog.cellsOf 34 = 14 := by kernel_rfl
  have t8 := hg 8 _ rfl
  have t9 := hg 9 _ rfl
  have t10 := hg 10 _ rfl
  simp only [cellsM, k4, k5, k6, List.drop_zero, List.drop_succ_cons, List.take_succ_cons, List.take_zero, List.getElem_toArray, List.getElem_cons_zero, List.getElem_cons_succ] at t8 t9 t10
  have l8 : 8 < xs.length := by rw [hlen]; decide
  have l9 : 9 < xs.length := by rw [hlen]; decide
  have l10 : 10 < xs.length := by rw [hlen]; decide
  rw [List.getElem?_eq_getElem l8] at t8
  rw [List.getElem?_eq_getElem l9] at t9
  rw [List.getElem?_eq_getElem l10] at t10
  have w8 := wt_es hI.e t8 (fun k hk => hw k (by
    simp only [DataW.weights, Try.underlying34]
    exact DataW.weights_mem_each (j := 8) (t := 29) (by rfl) (by rw [List.getElem?_map, List.getElem?_eq_getElem l8]; rfl) k hk))
  have w10 := wt_bytes t10 (fun k hk => hw k (by
    simp only [DataW.weights, Try.underlying34]
    exact DataW.weights_mem_each (j := 10) (t := 30) (by rfl) (by rw [List.getElem?_map, List.getElem?_eq_getElem l10]; rfl) k hk))
  have w9 : ∀ k ∈ (xs[9]).1.weights Try.prog 32, k ≤ reachBytes := fun k hk => hw k (by
    simp only [DataW.weights, Try.underlying34]
    exact DataW.weights_mem_each (j := 9) (t := 32) (by rfl) (by rw [List.getElem?_map, List.getElem?_eq_getElem l9]; rfl) k hk)
  obtain ⟨us, n2, _, hu, _, hul, hug⟩ := DataW.trod_struct Try.underlying32 t9
  rw [hu] at w9
  have s3 := hug 3 _ rfl
  simp only [k4, List.drop_zero, List.drop_succ_cons, List.take_succ_cons, List.take_zero, List.getElem_toArray, List.getElem_cons_zero, List.getElem_cons_succ] at s3
  have l3 : 3 < us.length := by rw [hul]; decide
  rw [List.getElem?_eq_getElem l3] at s3
  have w3 := wt_bytes s3 (fun k hk => w9 k (by
    simp only [DataW.weights, Try.underlying32]
    exact DataW.weights_mem_each (j := 3) (t := 30) (by rfl) (by rw [List.getElem?_map, List.getElem?_eq_getElem l3]; rfl) k hk))
  exact ⟨w8.1, w3, w10, w8.2⟩
set_option maxRecDepth 100000 in
theorem wt_act {n : Nat} {z : DataW H × List MemPlace} (y : Ac) (hI : IsM w y.r y.x) (h : DataW.trod enc Try.prog w 0 (fun _ => true) true n 55 (actL y) = some z) (hw : ∀ k ∈ z.1.weights Try.prog 55, k ≤ reachBytes) : Sz y := by
  obtain ⟨xs, n', _, hx, _, hlen, hg⟩ := DataW.trod_struct Try.underlying55 h
  subst hx
  have k7 : Try.prog.cellsOf 34 = 14 := by kernel_rfl
  have t2 := hg 2 _ rfl
  simp only [actL, k7, List.drop_zero, List.drop_succ_cons, List.take_succ_cons, List.take_zero, List.getElem_toArray, List.getElem_cons_zero, List.getElem_cons_succ] at t2
  have l2 : 2 < xs.length := by rw [hlen]; decide
  rw [List.getElem?_eq_getElem l2] at t2
  exact wt_msg y hI t2 (fun k hk => hw k (by
    simp only [DataW.weights, Try.underlying55]
    exact DataW.weights_mem_each (j := 2) (t := 34) (by rfl) (by rw [List.getElem?_map, List.getElem?_eq_getElem l2]; rfl) k hk))
set_option maxRecDepth 100000 in
theorem wt_LAct {v : Value} {x : XT_LAct} {d : DataW H} {p : List MemPlace} (hx : Is_LAct w v x) (h : DataW.Trod enc Try.prog w 0 (fun _ => true) true 46 v d p) (hw : ∀ k ∈ d.weights Try.prog 46, k ≤ reachBytes) : ∀ i, i < x.n → Sz (x.f i) := by
  obtain ⟨rfl, hle, _, hB⟩ := hx
  obtain ⟨fuel, hf0⟩ := h
  have hf : DataW.trod enc Try.prog w 0 (fun _ => true) true fuel 46 [.slice x.a x.n x.c] = some (d, p) := hf0
  clear hf0
  intro i hi
  obtain ⟨b, off, ha, hb, hc⟩ := hB.row (by omega)
  have hci := hc i hi
  have k5 : Try.prog.cellsOf 55 = 16 := by kernel_rfl
  rcases open_slice Try.underlying46 hf with ⟨hcs, _⟩ | ⟨x', l', c', m, n, D, Pl, hcs, _, hl, hm, hmm, hz, hi'⟩
  · simp at hcs
    omega
  · simp at hcs
    obtain ⟨hxa, rfl, rfl⟩ := hcs
    simp only [if_true] at hmm
    subst hmm
    cases hz
    rw [ha] at hxa
    cases hxa
    obtain ⟨cs', h1, h2⟩ := hi' i (by omega)
    rw [k5] at h1
    obtain ⟨_, hlen, hat⟩ := World.cells?_some h1
    have he : cs' = actL (x.f i) := by
      have hl2 : (actL (x.f i)).length = 16 := rfl
      refine List.ext_getElem? (fun j => ?_)
      by_cases hj : j < 16
      · have h4 := hat j hj
        rw [Addr.add_lit, Addr.add_lit, hci j _ (List.getElem?_eq_getElem (by omega))] at h4
        rw [← h4, List.getElem?_eq_getElem (by omega)]
      · rw [List.getElem?_eq_none (by omega), List.getElem?_eq_none (by omega)]
    rw [he] at h2
    refine wt_act (x.f i) (hB.is i hi) h2 (fun k hk => hw k ?_)
    simp only [DataW.weights, Try.underlying46, List.mem_cons, List.mem_append]
    refine .inr (.inl (wt_all (List.mem_map.2 ⟨i, by simp; omega, rfl⟩) k hk))
end
theorem airPlays_walk (w : World) (v0 : Value) (a0 : XT_LAct) (w0 : Is_LAct w v0 a0) (hz0 : ∀ i, i < a0.n → Sz (a0.f i)) :
    Calls Try.prog 6 #[v0] w fun e w' => e = .returned (.bool true) ∧ Below w.heap.size w w' := by
  obtain ⟨rfl, h1, h2, hA⟩ := w0
  exact airPlays_h w a0.a a0.n a0.c a0.f hA h1 h2 hz0
end Go.Proofs.Ytnokojobiaddmaa
