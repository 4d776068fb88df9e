/- Queues of packets with what they hold: whatever act on both; how acts are opened. -/
import Derived.Test.YtndlldlanjhanaaFp9
import Derived.Test.YtndlldlanjhanaaOpen3
namespace Go.Proofs.Ytndlldlanjhanaa
open Go.ChangeShapes Go.WideShapes Go.ChangeAt Go.RowKit Go.Shelf
set_option linter.unusedVariables false
set_option linter.unusedSimpArgs false
open BigFrame By Fq Bs Fp

theorem step_c (w0 w : World) (qb rb rq room pos dr : Nat) (la : Option Addr) (cap : Nat) (l : List Pt) (T : Tw w0 w qb rb rq room pos dr dr la cap l l) (hd : dr < 1000000) (act k num t C : Int) (a : Option Addr) (m c : Nat) (d : List Nat) (hy : Byt w0 a m c d) (hm : m ≤ 3000) :
    Calls Try.prog 7 #[.pointer (some ⟨qb, 0, none⟩), .pointer (some ⟨rq, 0, none⟩), .agg #[.int .i64 act, .int .i64 k, .int .i64 num, .int .i64 t, .int .i64 C, .slice a m c]] w (StepP w0 qb rb rq room (dr + 1)) := by
  have hg := T.blk
  obtain rfl := hy.len
  have hyT : ∀ {u : World} {pos dr dr2 : Nat} {la : Option Addr} {cap : Nat} {l l2 : List Pt}, Tw w0 u qb rb rq room pos dr dr2 la cap l l2 → Byt u a d.length c d := fun Tu => hy.bel Tu.bel
  have hnsP : ∀ {u : World} {pos dr dr2 : Nat} {la : Option Addr} {cap : Nat} {l l2 : List Pt}, Tw w0 u qb rb rq room pos dr dr2 la cap l l2 → ∀ q, q ∈ rq :: blkO la → q < u.heap.size := fun Tu q hq => by
    have := Tu.blk
    simp only [List.mem_cons] at hq
    rcases hq with rfl | hq
    · exact this.2.2.1
    · exact this.2.2.2 q hq
  have hnsR : ∀ {u : World} {pos dr dr2 : Nat} {la : Option Addr} {cap : Nat} {l l2 : List Pt}, Tw w0 u qb rb rq room pos dr dr2 la cap l l2 → ∀ q, q ∈ [qb, rb] → q < u.heap.size := fun Tu q hq => by
    have := Tu.blk
    simp at hq
    omega
  have hstab : ∀ (pos dr dr2 : Nat) (la : Option Addr) (cap : Nat) (l l2 : List Pt) (u u' : World), Tw w0 u qb rb rq room pos dr dr2 la cap l l2 → Below u.heap.size u u' → Tw w0 u' qb rb rq room pos dr dr2 la cap l l2 := fun _ _ _ _ _ _ _ _ _ Tu k => Tu.below k
  by_cases h0 : act = 0
  · subst h0
    by_cases hbig : 1492 < d.length
    · refine step_push w0 w qb rb rq room (dr + 1) (fun u => Tw w0 u qb rb rq room pos dr dr la cap l l) (fun u => Tw w0 u qb rb rq room pos dr dr la cap l l) num t C k 2 a d.length c T (hstab _ _ _ _ _ _ _) (fun u Tu => ?_) (fun u Tu => ?_) hg.1 hg.2.1
      · refine (pq_push_big qb ⟨num, t, C, d⟩ a c u hbig (by show d.length ≤ 1000000; omega)).mono ?_
        rintro e u' ⟨rfl, hb⟩
        exact ⟨rfl, Tu.below hb, KF.of hb⟩
      · refine (rq_push_big rq num t C a d.length c u hbig (by omega)).mono ?_
        rintro e u' ⟨rfl, hb⟩
        exact ⟨rfl, pos, dr, la, cap, l, Tu.below hb, by omega⟩
    · by_cases hfull : l.length = room
      · refine step_push w0 w qb rb rq room (dr + 1) (fun u => Tw w0 u qb rb rq room pos dr dr la cap l l) (fun u => Tw w0 u qb rb rq room pos (dr + 1) dr la cap l l) num t C k 100 a d.length c T (hstab _ _ _ _ _ _ _) (fun u Tu => ?_) (fun u Tu => ?_) hg.1 hg.2.1
        · refine (pq_push_full Tu.p ⟨num, t, C, d⟩ a c (hyT Tu) (by show d.length ≤ 1492; omega) hfull hd).mono ?_
          rintro e u' ⟨rfl, hp, hk⟩
          exact ⟨rfl, Tu.prog hp hk, hk⟩
        · refine (rq_push_full u rq room dr la cap l _ Tu.r num t C a d.length c (by omega) hfull hd).mono ?_
          rintro e u' ⟨rfl, la', cap', hr, hk, hn⟩
          exact ⟨rfl, pos, dr + 1, la', cap', l, Tu.ref hr hk hn, Nat.le_refl _⟩
      · have hlt : l.length < room := by have := T.r.k; omega
        refine step_push w0 w qb rb rq room (dr + 1) (fun u => Tw w0 u qb rb rq room pos dr dr la cap l l) (fun u => Tw w0 u qb rb rq room pos dr dr la cap (l ++ [⟨num, t, C, d⟩]) l) num t C k 0 a d.length c T (hstab _ _ _ _ _ _ _) (fun u Tu => ?_) (fun u Tu => ?_) hg.1 hg.2.1
        · refine (pq_push_ok Tu.p (hnsP Tu) ⟨num, t, C, d⟩ a c (hyT Tu) (by show d.length ≤ 1492; omega) hlt).mono ?_
          rintro e u' ⟨rfl, hp, hk⟩
          exact ⟨rfl, Tu.prog hp hk, hk⟩
        · refine (rq_push_ok u rq room dr la cap l _ Tu.r (hnsR Tu) ⟨num, t, C, d⟩ a c (hyT Tu) (by show d.length ≤ 1492; omega) hlt).mono ?_
          rintro e u' ⟨rfl, la', cap', hr, hk, hn⟩
          exact ⟨rfl, pos, dr, la', cap', _, Tu.ref hr hk hn, by omega⟩
  · by_cases h1 : act = 1
    · subst h1
      cases l with
      | nil =>
        refine step_pop w0 w qb rb rq room (dr + 1) (fun u => Tw w0 u qb rb rq room pos dr dr la cap [] []) (fun u => Tw w0 u qb rb rq room pos dr dr la cap [] []) num t C k a d.length c ⟨0, 0, 0, []⟩ 4 T (hstab _ _ _ _ _ _ _) (hstab _ _ _ _ _ _ _) (fun u Tu => ?_) (fun u Tu => ?_) hg.1 hg.2.1
        · refine (qpop_none qb rb room pos 0 dr u Tu.p.q).mono ?_
          rintro e u' ⟨rfl, hb⟩
          exact ⟨⟨_, rfl, none, 0, rfl, Byt.nil _ _ _ (by omega), Far.zero _ _⟩, Tu.below hb, KF.of hb⟩
        · refine (rq_pop_none u rq room dr la cap _ Tu.r).mono ?_
          rintro e u' ⟨rfl, hb⟩
          exact ⟨⟨_, rfl, none, 0, rfl, Byt.nil _ _ _ (by omega), Far.zero _ _⟩, ⟨pos, dr, la, cap, [], Tu.below hb, by omega⟩, [], KF.of hb, fun q hq => by simp at hq⟩
      | cons p l' =>
        refine step_pop w0 w qb rb rq room (dr + 1) (fun u => Tw w0 u qb rb rq room pos dr dr la cap (p :: l') (p :: l')) (fun u => Tw w0 u qb rb rq room ((pos + 1) % room) dr dr la cap l' (p :: l')) num t C k a d.length c p 0 T (hstab _ _ _ _ _ _ _) (hstab _ _ _ _ _ _ _) (fun u Tu => ?_) (fun u Tu => ?_) hg.1 hg.2.1
        · refine (pq_pop_ok Tu.p).mono ?_
          rintro e u' ⟨hv, hp, hk⟩
          exact ⟨hv, Tu.prog hp hk, hk⟩
        · refine (rq_pop_ok u rq room dr la cap p l' _ Tu.r).mono ?_
          rintro e u' ⟨hv, la', cap', hr, hk, hn⟩
          refine ⟨hv, ⟨_, dr, la', cap', l', Tu.ref hr hk (fun b hb => .inl (hn b hb)), by omega⟩, _, hk, fun q hq => ?_⟩
          simp only [List.mem_cons] at hq
          rcases hq with rfl | hq
          · exact hg.2.2.1
          · exact hg.2.2.2 q hq
    · by_cases h2 : act = 2
      · subst h2
        cases l with
        | nil =>
          refine step_head w0 w qb rb rq room (dr + 1) (fun u => Tw w0 u qb rb rq room pos dr dr la cap [] []) (fun u => Tw w0 u qb rb rq room pos dr dr la cap [] []) num t C k a d.length c ⟨0, 0, 0, []⟩ false T (hstab _ _ _ _ _ _ _) (hstab _ _ _ _ _ _ _) (fun u Tu => ?_) (fun u Tu => ?_) hg.1 hg.2.1
          · refine (qhead_none qb rb room pos 0 dr u Tu.p.q).mono ?_
            rintro e u' ⟨rfl, hb⟩
            exact ⟨⟨_, rfl, none, 0, rfl, Byt.nil _ _ _ (by omega), Far.zero _ _⟩, Tu.below hb, KF.of hb⟩
          · refine (rq_head_none u rq room dr la cap _ Tu.r).mono ?_
            rintro e u' ⟨rfl, hb⟩
            exact ⟨⟨_, rfl, none, 0, rfl, Byt.nil _ _ _ (by omega), Far.zero _ _⟩, ⟨pos, dr, la, cap, [], Tu.below hb, by omega⟩, [], KF.of hb, fun q hq => by simp at hq⟩
        | cons p l' =>
          refine step_head w0 w qb rb rq room (dr + 1) (fun u => Tw w0 u qb rb rq room pos dr dr la cap (p :: l') (p :: l')) (fun u => Tw w0 u qb rb rq room pos dr dr la cap (p :: l') (p :: l')) num t C k a d.length c p true T (hstab _ _ _ _ _ _ _) (hstab _ _ _ _ _ _ _) (fun u Tu => ?_) (fun u Tu => ?_) hg.1 hg.2.1
          · refine (pq_head_ok Tu.p).mono ?_
            rintro e u' ⟨hv, hb⟩
            exact ⟨hv, Tu.below hb, KF.of hb⟩
          · refine (rq_head_ok u rq room dr la cap p l' _ Tu.r).mono ?_
            rintro e u' ⟨hv, hb⟩
            exact ⟨hv, ⟨pos, dr, la, cap, p :: l', Tu.below hb, by omega⟩, [], KF.of hb, fun q hq => by simp at hq⟩
      · exact step_told w0 w qb rb rq room (dr + 1) pos dr dr la cap l T ⟨rfl, by omega⟩ act num t C k a d.length c h0 h1 h2

/-- An act, by what it says. -/
structure ActX where
  o : Int
  k : Int
  x : Int
  t : Int
  C : Int
  a : Option Addr
  m : Nat
  c : Nat
  d : List Nat
structure XT_LAct where
  a : Option Addr
  n : Nat
  c : Nat
  f : Nat → ActX
/-- A row of acts. -/
structure ActAt (w : World) (a : Option Addr) (n : Nat) (f : Nat → ActX) : Prop where
  row : 0 < n → ∃ b off, a = some ⟨b, off, none⟩ ∧ b < w.heap.size ∧ ∀ i, i < n → w.cell? ⟨b, off + i * 6, none⟩ = some (.int .i64 (f i).o) ∧ w.cell? ⟨b, off + i * 6 + 1, none⟩ = some (.int .i64 (f i).k) ∧ w.cell? ⟨b, off + i * 6 + 2, none⟩ = some (.int .i64 (f i).x) ∧ w.cell? ⟨b, off + i * 6 + 3, none⟩ = some (.int .i64 (f i).t) ∧ w.cell? ⟨b, off + i * 6 + 4, none⟩ = some (.int .i64 (f i).C) ∧ w.cell? ⟨b, off + i * 6 + 5, none⟩ = some (.slice (f i).a (f i).m (f i).c)
  by_ : ∀ i, i < n → Byt w (f i).a (f i).m (f i).c (f i).d
def Is_LAct (w : World) (v : Value) (x : XT_LAct) : Prop := v = .slice x.a x.n x.c ∧ x.n ≤ x.c ∧ x.c ≤ 9223372036854775807 ∧ ActAt w x.a x.n x.f
theorem by_u8 {n : Int} (h : (Lit.int .u8 n).wf = true) : 0 ≤ n ∧ n ≤ 255 := by
  simp [Lit.wf, IntKind.min, IntKind.max, IntKind.signed, IntKind.bits] at h
  omega
section
variable {H : Type} {enc : TypeId × Value → H} {w : World}
set_option maxRecDepth 100000 in
theorem by_bytes {n : Nat} {u : Value} {z : DataW H × List MemPlace} (h : DataW.trod enc Try.prog w 0 (fun _ => true) true n 23 [u] = some z) :
    ∃ a l c d, u = .slice a l c ∧ Byt w a l c d := by
  have k1 : Try.prog.cellsOf 5 = 1 := by kernel_rfl
  obtain ⟨a, len, cap, rfl, hl, hm, hrow⟩ := open_rowsN Try.underlying23 h (by rw [k1]; omega)
  rw [k1] at hrow
  unfold maxLen at hm
  by_cases hp : 0 < len
  · obtain ⟨b, off, V, n, rfl, hb, hV⟩ := hrow hp
    refine ⟨_, len, cap, (List.range len).map (fun i => (intOf ((V i).getD 0 undef)).toNat), rfl, by simp, hl, hm, fun _ => ⟨b, off, rfl, hb, fun i x hx => ?_⟩⟩
    have hi : i < len := by have := (List.getElem?_eq_some_iff.1 hx).1; simpa using this
    simp [hi] at hx
    subst hx
    obtain ⟨q1, q2, z, q3⟩ := hV i (by omega)
    obtain ⟨x, hx⟩ : ∃ x, V i = [x] := List.length_eq_one_iff.1 q1
    rw [hx] at q2 q3
    obtain ⟨e4, f4⟩ := trod_int' Try.underlying5 q3
    have hb4 := by_u8 f4
    have hc := q2 0 x rfl
    have hg' : (intOf ((V i)[0]?.getD undef)).toNat = (intOf x).toNat := by rw [hx]; rfl
    rw [hg']
    refine ⟨?_, by omega⟩
    rw [e4] at hc
    rw [show (((intOf x).toNat : Nat) : Int) = intOf x by omega]
    simpa using hc
  · obtain rfl : len = 0 := by omega
    exact ⟨a, 0, cap, [], rfl, Byt.nil _ _ _ hm⟩
theorem len6 {l : List Value} (h : l.length = 6) : ∃ x0 x1 x2 x3 x4 x5, l = [x0, x1, x2, x3, x4, x5] := by
  match l, h with
  | [x0, x1, x2, x3, x4, x5], _ => exact ⟨_, _, _, _, _, _, rfl⟩
set_option maxRecDepth 100000 in
theorem open_actx {n : Nat} {l : List Value} {z : DataW H × List MemPlace} (hl : l.length = 6) (h : DataW.trod enc Try.prog w 0 (fun _ => true) true n 27 l = some z) :
    ∃ x : ActX, Byt w x.a x.m x.c x.d ∧ l = [.int .i64 x.o, .int .i64 x.k, .int .i64 x.x, .int .i64 x.t, .int .i64 x.C, .slice x.a x.m x.c] := by
  obtain ⟨_, m, hf⟩ := trod_fields Try.underlying27 h
  obtain ⟨x0, x1, x2, x3, x4, x5, rfl⟩ := len6 hl
  have k0 : Try.prog.cellsOf 3 = 1 := by kernel_rfl
  have k4 : Try.prog.cellsOf 25 = 4 := by kernel_rfl
  have k5 : Try.prog.cellsOf 23 = 1 := by kernel_rfl
  obtain ⟨y0, t0⟩ := hf 0 _ rfl
  obtain ⟨y1, t1⟩ := hf 1 _ rfl
  obtain ⟨y2, t2⟩ := hf 2 _ rfl
  simp only [k0, k4, List.drop_zero, List.drop_succ_cons, List.take_succ_cons, List.take_zero, List.getElem_toArray, List.getElem_cons_zero, List.getElem_cons_succ] at t0 t1 t2
  obtain ⟨_, m2, hf2⟩ := trod_fields Try.underlying25 t2
  obtain ⟨z0, s0⟩ := hf2 0 _ rfl
  obtain ⟨z1, s1⟩ := hf2 1 _ rfl
  obtain ⟨z2, s2⟩ := hf2 2 _ rfl
  obtain ⟨z3, s3⟩ := hf2 3 _ rfl
  simp only [k0, k5, List.drop_zero, List.drop_succ_cons, List.take_succ_cons, List.take_zero, List.getElem_toArray, List.getElem_cons_zero, List.getElem_cons_succ] at s0 s1 s2 s3
  obtain ⟨e0, f0⟩ := trod_int' Try.underlying3 t0
  obtain ⟨e1, f1⟩ := trod_int' Try.underlying3 t1
  obtain ⟨e2, f2⟩ := trod_int' Try.underlying3 s0
  obtain ⟨e3, f3⟩ := trod_int' Try.underlying3 s1
  obtain ⟨e4, f4⟩ := trod_int' Try.underlying3 s2
  obtain ⟨a, dl, dc, d, rfl, hB⟩ := by_bytes s3
  refine ⟨⟨intOf x0, intOf x1, intOf x2, intOf x3, intOf x4, a, dl, dc, d⟩, hB, ?_⟩
  rw [← e0, ← e1, ← e2, ← e3, ← e4]
set_option maxRecDepth 100000 in
theorem open_LAct {r : Reach} {b0 : Nat} {v : Value} {d : DataW H} {p : List MemPlace} (hv : Value.okWide Try.prog w r b0 22 v) (h : DataW.Trod enc Try.prog w 0 (fun _ => true) true 22 v d p) : ∃ x, Is_LAct w v x := by
  obtain ⟨a0, len0, cap0, rfl⟩ := okWide_slice Try.underlying22 hv
  obtain ⟨fuel, hf⟩ := h
  have k6 : Try.prog.cellsOf 27 = 6 := by kernel_rfl
  obtain ⟨a, len, cap, e, hl, hm, hrow⟩ := open_rowsN (u := .slice a0 len0 cap0) Try.underlying22 hf (by rw [k6]; omega)
  cases e
  rw [k6] at hrow
  unfold maxLen at hm
  by_cases hp : 0 < len0
  · obtain ⟨b, off, V, n, rfl, hb, hV⟩ := hrow hp
    have hE : ∀ i, ∃ x : ActX, i < cap0 → Byt w x.a x.m x.c x.d ∧ V i = [.int .i64 x.o, .int .i64 x.k, .int .i64 x.x, .int .i64 x.t, .int .i64 x.C, .slice x.a x.m x.c] := fun i => by
      by_cases hi : i < cap0
      · obtain ⟨q1, _, z, q3⟩ := hV i hi
        obtain ⟨x, r1, r2⟩ := open_actx q1 q3
        exact ⟨x, fun _ => ⟨r1, r2⟩⟩
      · exact ⟨⟨0, 0, 0, 0, 0, none, 0, 0, []⟩, fun h => absurd h hi⟩
    obtain ⟨f, hf'⟩ := Classical.axiomOfChoice hE
    refine ⟨⟨_, len0, cap0, f⟩, rfl, hl, hm, ⟨fun _ => ⟨b, off, rfl, hb, fun i hi => ?_⟩, fun i hi => (hf' i (by simp only at hi; omega)).1⟩⟩
    simp only at hi
    obtain ⟨_, q2, _⟩ := hV i (by omega)
    rw [(hf' i (by omega)).2] at q2
    refine ⟨?_, ?_, ?_, ?_, ?_, ?_⟩
    · have := q2 0 _ rfl; rwa [Nat.add_zero] at this
    · have := q2 1 _ rfl; rwa [← Nat.add_assoc] at this
    · have := q2 2 _ rfl; rwa [← Nat.add_assoc] at this
    · have := q2 3 _ rfl; rwa [← Nat.add_assoc] at this
    · have := q2 4 _ rfl; rwa [← Nat.add_assoc] at this
    · have := q2 5 _ rfl; rwa [← Nat.add_assoc] at this
  · obtain rfl : len0 = 0 := by omega
    exact ⟨⟨a0, 0, cap0, fun _ => ⟨0, 0, 0, 0, 0, none, 0, 0, []⟩⟩, rfl, hl, hm, ⟨fun h => absurd h (by omega), fun i hi => by simp only at hi; omega⟩⟩
end
end Go.Proofs.Ytndlldlanjhanaa
