/- The shaper: how the laws' arguments are opened; ShaperWhole's walk. -/
import Derived.Test.YtkefkophlhcbiaaS14
import Derived.Test.YtkefkophlhcbiaaOpen3
import Derived.SizedLaws
namespace Go.Proofs.Ytkefkophlhcbiaa
open Go.ChangeShapes Go.WideShapes Go.ChangeAt Go.RowKit Go.Deep
set_option linter.unusedVariables false
set_option linter.unusedSimpArgs false
open Sh
open By (Byt)
open Bs

section
open Go.Deep
variable {H : Type} {enc : TypeId × Value → H} {P : Program} {w : World}
theorem open_intRows {r : Reach} {b0 k : Nat} {t e T : TypeId} {fs : Array Field} {v : Value} {d : DataW H} {p : List MemPlace} (ht : P.underlying t = some (.slice e)) (he : P.underlying e = some (.struct fs))
    (hone : oneCellFields P fs = true) (hC : P.cellsOf e = fs.size) (hk : fs.size = k) (hk0 : 0 < k) (hall : fs.toList.all (fun f => f.type == T) = true) (hT : P.underlying T = some (.int .i64))
    (hv : Value.okWide P w r b0 t v) (h : DataW.Trod enc P w 0 (fun _ => true) true t v d p) :
    ∃ (a : Option Addr) (b off len cap : Nat) (X : Nat → Nat → Int), v = .slice a len cap ∧ len ≤ cap ∧ cap ≤ 9223372036854775807 ∧ IntRows w a b off len k X ∧ ∀ i j, i < len → j < k → (Lit.int .i64 (X i j)).wf = true := by
  obtain ⟨a, len, cap, rfl, hl, hm, hrow⟩ := open_rows ht he hone hC hv h
  unfold maxLen at hm
  by_cases hp : 0 < len
  · obtain ⟨b, off, V, rfl, hb, hV⟩ := hrow hp (by omega)
    have hc : ∀ i j, i < len → j < k → w.cell? ⟨b, off + i * k + j, none⟩ = some (.int .i64 (RowKit.intOf (V i j))) ∧ (Lit.int .i64 (RowKit.intOf (V i j))).wf = true := fun i j hi hj => by
      have hjf : j < fs.size := by omega
      obtain ⟨h1, n, y, h2⟩ := hV i (by omega) j (fs[j]'hjf) (by simp [hjf])
      have hT2 : (fs[j]'hjf).type = T := by
        have := List.all_eq_true.1 hall (fs[j]'hjf) (by simp)
        simpa using this
      rw [hT2] at h2
      obtain ⟨e2, f2⟩ := trod_int' hT h2
      rw [e2, hk] at h1
      exact ⟨by simpa [Nat.add_assoc] using h1, f2⟩
    exact ⟨_, b, off, len, cap, fun i j => RowKit.intOf (V i j), rfl, hl, hm, ⟨fun _ => rfl, fun _ => hb, fun i j hi hj => (hc i j hi hj).1⟩, fun i j hi hj => (hc i j hi hj).2⟩
  · exact ⟨a, 0, 0, len, cap, fun _ _ => 0, rfl, hl, hm, ⟨fun h => absurd h hp, fun h => absurd h hp, fun i j hi hj => absurd hi (by omega)⟩, fun i j hi hj => absurd hi (by omega)⟩
end


structure XT_LFlow where
  a : Option Addr
  b : Nat
  off : Nat
  n : Nat
  cap : Nat
  X : Nat → Nat → Int
def Is_LFlow (w : World) (v : Value) (x : XT_LFlow) : Prop :=
  v = .slice x.a x.n x.cap ∧ x.n ≤ x.cap ∧ x.cap ≤ 9223372036854775807 ∧ IntRows w x.a x.b x.off x.n 3 x.X ∧ ∀ i j, i < x.n → j < 3 → (Lit.int .i64 (x.X i j)).wf = true
structure XT_LAct where
  a : Option Addr
  n : Nat
  c : Nat
  f : Nat → Ac
def Is_LAct (w : World) (v : Value) (x : XT_LAct) : Prop := v = .slice x.a x.n x.c ∧ x.n ≤ x.c ∧ x.c ≤ 9223372036854775807 ∧ AcAt w x.a x.n x.f ∧ ∀ i, i < x.n → (Lit.int .i64 (x.f i).n).wf = true
theorem by_u8 {n : Int} (h : (Lit.int .u8 n).wf = true) : 0 ≤ n ∧ n ≤ 255 := by
  simp [Lit.wf, IntKind.min, IntKind.max, IntKind.signed, IntKind.bits] at h
  omega
section
variable {H : Type} {enc : TypeId × Value → H} {w : World}
set_option maxRecDepth 100000 in
theorem open_LFlow {r : Reach} {b0 : Nat} {v : Value} {d : DataW H} {p : List MemPlace} (hv : Value.okWide Try.prog w r b0 22 v) (h : DataW.Trod enc Try.prog w 0 (fun _ => true) true 22 v d p) : ∃ x, Is_LFlow w v x := by
  obtain ⟨a, b, off, len, cap, X, h1, h2, h3, h4, h5⟩ := open_intRows (T := 3) (k := 3) Try.underlying22 Try.underlying33 (by kernel_rfl) (by kernel_rfl) (by rfl) (by omega) (by kernel_rfl) Try.underlying3 hv h
  exact ⟨⟨a, b, off, len, cap, X⟩, h1, h2, h3, h4, h5⟩
set_option maxRecDepth 100000 in
theorem by_bytes {n : Nat} {u : Value} {z : DataW H × List MemPlace} (h : DataW.trod enc Try.prog w 0 (fun _ => true) true n 34 [u] = some z) :
    ∃ a l c d, u = .slice a l c ∧ Byt w a l c d := by
  have k1 : Try.prog.cellsOf 5 = 1 := by kernel_rfl
  obtain ⟨a, len, cap, rfl, hl, hm, hrow⟩ := open_rowsN Try.underlying34 h (by rw [k1]; omega)
  rw [k1] at hrow
  unfold maxLen at hm
  by_cases hp : 0 < len
  · obtain ⟨b, off, V, n, rfl, hb, hV⟩ := hrow hp
    refine ⟨_, len, cap, (List.range len).map (fun i => (RowKit.intOf ((V i).getD 0 undef)).toNat), rfl, by simp, hl, hm, fun _ => ⟨b, off, rfl, hb, fun i x hx => ?_⟩⟩
    have hi : i < len := by have := (List.getElem?_eq_some_iff.1 hx).1; simpa using this
    simp [hi] at hx
    subst hx
    obtain ⟨q1, q2, z, q3⟩ := hV i (by omega)
    obtain ⟨x, hx⟩ : ∃ x, V i = [x] := List.length_eq_one_iff.1 q1
    rw [hx] at q2 q3
    obtain ⟨e4, f4⟩ := trod_int' Try.underlying5 q3
    have hb4 := by_u8 f4
    have hc := q2 0 x rfl
    have hg' : (RowKit.intOf ((V i)[0]?.getD undef)).toNat = (RowKit.intOf x).toNat := by rw [hx]; rfl
    rw [hg']
    refine ⟨?_, by omega⟩
    rw [e4] at hc
    rw [show (((RowKit.intOf x).toNat : Nat) : Int) = RowKit.intOf x by omega]
    simpa using hc
  · obtain rfl : len = 0 := by omega
    exact ⟨a, 0, cap, [], rfl, Byt.nil _ _ _ hm⟩
theorem ac_len4 {cs : List Value} (h : cs.length = 4) : ∃ x0 x1 x2 x3, cs = [x0, x1, x2, x3] := by
  match cs, h with
  | [x0, x1, x2, x3], _ => exact ⟨x0, x1, x2, x3, rfl⟩
set_option maxRecDepth 100000 in
theorem open_ac {n : Nat} {cs : List Value} {z : DataW H × List MemPlace} (hl : cs.length = 4) (h : DataW.trod enc Try.prog w 0 (fun _ => true) true n 36 cs = some z) :
    ∃ x : Ac, Byt w x.a x.m x.c x.d ∧ (Lit.int .i64 x.n).wf = true ∧ cs = [.int .i64 x.k, .int .i64 x.t, .int .i64 x.n, .slice x.a x.m x.c] := by
  obtain ⟨xs, n', _, hx, _, hlen, hg⟩ := DataW.trod_struct Try.underlying36 h
  have k1 : Try.prog.cellsOf 3 = 1 := by kernel_rfl
  have k4 : Try.prog.cellsOf 34 = 1 := by kernel_rfl
  obtain ⟨x0, x1, x2, x3, rfl⟩ := ac_len4 hl
  have s0 := hg 0 _ rfl
  have s1 := hg 1 _ rfl
  have s2 := hg 2 _ rfl
  have s3 := hg 3 _ rfl
  simp only [k1, k4, List.drop_succ_cons, List.drop_zero, List.take_succ_cons, List.take_zero, List.getElem_toArray, List.getElem_cons_zero, List.getElem_cons_succ] at s0 s1 s2 s3
  have l0 : 0 < xs.length := by rw [hlen]; decide
  have l1 : 1 < xs.length := by rw [hlen]; decide
  have l2 : 2 < xs.length := by rw [hlen]; decide
  have l3 : 3 < xs.length := by rw [hlen]; decide
  rw [List.getElem?_eq_getElem l0] at s0
  rw [List.getElem?_eq_getElem l1] at s1
  rw [List.getElem?_eq_getElem l2] at s2
  rw [List.getElem?_eq_getElem l3] at s3
  obtain ⟨e0, f0⟩ := trod_int' Try.underlying3 s0
  obtain ⟨e1, f1⟩ := trod_int' Try.underlying3 s1
  obtain ⟨e2, f2⟩ := trod_int' Try.underlying3 s2
  obtain ⟨a, dl, dc, d, rfl, hB⟩ := by_bytes s3
  refine ⟨⟨RowKit.intOf x0, RowKit.intOf x1, RowKit.intOf x2, a, dl, dc, d⟩, hB, f2, ?_⟩
  rw [← e0, ← e1, ← e2]
set_option maxRecDepth 100000 in
theorem open_LAct {r : Reach} {b0 : Nat} {v : Value} {d : DataW H} {p : List MemPlace} (hv : Value.okWide Try.prog w r b0 23 v) (h : DataW.Trod enc Try.prog w 0 (fun _ => true) true 23 v d p) : ∃ x, Is_LAct w v x := by
  obtain ⟨a0, len0, cap0, rfl⟩ := okWide_slice Try.underlying23 hv
  obtain ⟨fuel, hf⟩ := h
  have k6 : Try.prog.cellsOf 36 = 4 := by kernel_rfl
  obtain ⟨a, len, cap, e, hl, hm, hrow⟩ := open_rowsN (u := .slice a0 len0 cap0) Try.underlying23 hf (by rw [k6]; omega)
  cases e
  rw [k6] at hrow
  unfold maxLen at hm
  by_cases hp : 0 < len0
  · obtain ⟨b, off, V, n, rfl, hb, hV⟩ := hrow hp
    have hE : ∀ i, ∃ x : Ac, i < cap0 → Byt w x.a x.m x.c x.d ∧ (Lit.int .i64 x.n).wf = true ∧ V i = [.int .i64 x.k, .int .i64 x.t, .int .i64 x.n, .slice x.a x.m x.c] := fun i => by
      by_cases hi : i < cap0
      · obtain ⟨q1, _, z, q3⟩ := hV i hi
        obtain ⟨x, r1, r2, r3⟩ := open_ac q1 q3
        exact ⟨x, fun _ => ⟨r1, r2, r3⟩⟩
      · exact ⟨⟨0, 0, 0, none, 0, 0, []⟩, fun h => absurd h hi⟩
    obtain ⟨f, hf'⟩ := Classical.axiomOfChoice hE
    refine ⟨⟨_, len0, cap0, f⟩, rfl, hl, hm, ⟨fun _ => ⟨b, off, rfl, hb, fun i hi => ?_⟩, fun i hi => (hf' i (by simp only at hi; omega)).1⟩, fun i hi => (hf' i (by simp only at hi; omega)).2.1⟩
    simp only at hi
    obtain ⟨_, q2, _⟩ := hV i (by omega)
    rw [(hf' i (by omega)).2.2] at q2
    refine ⟨?_, ?_, ?_, ?_⟩
    · have := q2 0 _ rfl; rwa [Nat.add_zero] at this
    · have := q2 1 _ rfl; rwa [← Nat.add_assoc] at this
    · have := q2 2 _ rfl; rwa [← Nat.add_assoc] at this
    · have := q2 3 _ rfl; rwa [← Nat.add_assoc] at this
  · exact ⟨⟨a0, len0, cap0, fun _ => ⟨0, 0, 0, none, 0, 0, []⟩⟩, rfl, hl, hm, ⟨fun h => absurd h hp, fun i hi => absurd hi (by simp only at *; omega)⟩, fun i hi => absurd hi (by simp only at *; omega)⟩
theorem wt_all {P : Program} {e : TypeId} : ∀ {ds : List (DataW H)} {d : DataW H}, d ∈ ds → ∀ n ∈ d.weights P e, n ∈ DataW.weightsAll P e ds
  | d0 :: ds, d, hd, n, hn => by
    simp only [DataW.weightsAll, List.mem_append]
    rcases List.mem_cons.1 hd with rfl | hd
    · exact .inl hn
    · exact .inr (wt_all hd n hn)
  | [], _, hd, _, _ => by simp at hd
set_option maxRecDepth 100000 in
theorem wt_bytes {n : Nat} {a : Option Addr} {l c : Nat} {z : DataW H × List MemPlace} (h : DataW.trod enc Try.prog w 0 (fun _ => true) true n 34 [.slice a l c] = some z) (hw : ∀ k ∈ z.1.weights Try.prog 34, k ≤ reachBytes) : l ≤ reachBytes := by
  have k1 : Try.prog.bytesOf 5 = 1 := by kernel_rfl
  rcases open_slice Try.underlying34 h with ⟨hcs, _⟩ | ⟨x, l', c', m, n, D, Pl, hcs, _, hl, hm, hmm, hz, hi⟩
  · simp at hcs
    omega
  · simp at hcs
    obtain ⟨_, rfl, rfl⟩ := hcs
    subst hz
    have := hw ((l + (m - l)) * 1) (by simp [DataW.weights, Try.underlying34, k1])
    omega
set_option maxRecDepth 100000 in
theorem wt_ac {n : Nat} {cs : List Value} {a : Option Addr} {l c : Nat} {z : DataW H × List MemPlace} (hl : cs.length = 4) (h4 : cs[3]? = some (.slice a l c)) (h : DataW.trod enc Try.prog w 0 (fun _ => true) true n 36 cs = some z) (hw : ∀ k ∈ z.1.weights Try.prog 36, k ≤ reachBytes) : l ≤ reachBytes := by
  obtain ⟨xs, n', _, hx, _, hlen, hg⟩ := DataW.trod_struct Try.underlying36 h
  subst hx
  have k4 : Try.prog.cellsOf 34 = 1 := by kernel_rfl
  obtain ⟨x0, x1, x2, x3, rfl⟩ := ac_len4 hl
  simp at h4
  subst h4
  have t4 := hg 3 _ rfl
  simp only [k4, List.drop_succ_cons, List.drop_zero, List.take_succ_cons, List.take_zero, List.getElem_toArray, List.getElem_cons_zero, List.getElem_cons_succ] at t4
  have hx4 : 3 < xs.length := by rw [hlen]; decide
  rw [List.getElem?_eq_getElem hx4] at t4
  refine wt_bytes t4 (fun k hk => hw k ?_)
  simp only [DataW.weights, Try.underlying36]
  exact DataW.weights_mem_each (j := 3) (t := 34) (by rfl) (by rw [List.getElem?_map, List.getElem?_eq_getElem hx4]; rfl) k hk
set_option maxRecDepth 100000 in
theorem wt_LAct {v : Value} {x : XT_LAct} {d : DataW H} {p : List MemPlace} (hx : Is_LAct w v x) (h : DataW.Trod enc Try.prog w 0 (fun _ => true) true 23 v d p) (hw : ∀ k ∈ d.weights Try.prog 23, k ≤ reachBytes) : ∀ i, i < x.n → (x.f i).m ≤ reachBytes := by
  obtain ⟨rfl, hle, _, hB, _⟩ := hx
  obtain ⟨fuel, hf0⟩ := h
  have hf : DataW.trod enc Try.prog w 0 (fun _ => true) true fuel 23 [.slice x.a x.n x.c] = some (d, p) := hf0
  clear hf0
  intro i hi
  obtain ⟨b, off, ha, hb, hc⟩ := hB.row (by omega)
  obtain ⟨_, _, _, hci⟩ := hc i hi
  have k5 : Try.prog.cellsOf 36 = 4 := by kernel_rfl
  rcases open_slice Try.underlying23 hf with ⟨hcs, _⟩ | ⟨x', l', c', m, n, D, Pl, hcs, _, hl, hm, hmm, hz, hi'⟩
  · simp at hcs
    omega
  · simp at hcs
    obtain ⟨hxa, rfl, rfl⟩ := hcs
    simp only [if_true] at hmm
    subst hmm
    cases hz
    rw [ha] at hxa
    cases hxa
    obtain ⟨cs', h1, h2⟩ := hi' i (by omega)
    rw [k5] at h1
    obtain ⟨_, hlen, hat⟩ := World.cells?_some h1
    have h4 := hat 3 (by omega)
    rw [Addr.add_lit, Addr.add_lit] at h4
    rw [hci] at h4
    refine wt_ac hlen h4.symm h2 (fun k hk => hw k ?_)
    simp only [DataW.weights, Try.underlying23, List.mem_cons, List.mem_append]
    refine .inr (.inl (wt_all (List.mem_map.2 ⟨i, by simp; omega, rfl⟩) k hk))
end
theorem shaperWhole_walk (w : World) (v0 : Value) (a0 : XT_LFlow) (v1 : Value) (a1 : XT_LAct) (w0 : Is_LFlow w v0 a0) (w1 : Is_LAct w v1 a1) (hz1 : ∀ i, i < a1.n → (a1.f i).m ≤ reachBytes) :
    Calls Try.prog 4 #[v0, v1] w fun e w' => e = .returned (.bool true) ∧ Below w.heap.size w w' := by
  obtain ⟨rfl, h1, h2, hF, hwf⟩ := w0
  obtain ⟨rfl, h3, h4, hA, hwfA⟩ := w1
  exact shaperWhole_h w a0.a a0.b a0.off a0.n a0.cap a0.X hF hwf (by omega) a1.a a1.n a1.c a1.f hA hwfA h3 h4 hz1
end Go.Proofs.Ytkefkophlhcbiaa
