/- The scheduler run over queues: plain. The scheduler run over queues: rows of ints, heads and queues. The scheduler run over queues: Run. The scheduler run over queues: Run refused; Run whatever it is given. The scheduler: rows of ints compared; the law's own examples. The scheduler: New whatever it is given; arguments opened; what is served, plain. Rows of one's own of ints. The scheduler's bound: plain. The scheduler's bound: what is told. The scheduler's bound: what is picked. The scheduler's bound: along a stretch. The scheduler's bound: the law's pick. The scheduler's bound: whether it holds, as the law asks. The scheduler's bound: a round of the law, plain. The scheduler's bound: where the law stands, in memory. -/
import Derived.Test.YtbbcongfaoopcaaF17
import Derived.Test.YtbbcongfaoopcaaOpen3
namespace Go.Proofs.Ytbbcongfaoopcaa
open Go.ChangeShapes Go.WideShapes Go.ChangeAt Go.RowKit Go.Maps
set_option linter.unusedVariables false
set_option linter.unusedSimpArgs false
open BigFrame Pk Fq Vr Fa

namespace Fa
/-- By how much the times may go on at a pick. -/
def PM : Int := 139459320000
theorem Inv.pick {M ALL V : Int} {N : Nat} {W Z : Nat → Int} {D : Nat → Bool} {S F h : Nat → Int} (H : Inv M ALL V N W Z D S F) (hh : ∀ i, i < N → headBad (h i) = false) :
    Inv (M + PM) ALL (pickX N h (toldN N ALL V W Z D S F h)).x.V N W (pickX N h (toldN N ALL V W Z D S F h)).x.Z (pickX N h (toldN N ALL V W Z D S F h)).x.D (pickX N h (toldN N ALL V W Z D S F h)).x.S (pickX N h (toldN N ALL V W Z D S F h)).x.F := by
  have hI := H.told hh N
  have hZ : ∀ i, i < N → (toldN N ALL V W Z D S F h).Z i = h i := fun i hi => mix_lt h Z hi
  have hV : (toldN N ALL V W Z D S F h).V = V := rfl
  generalize hx : toldN N ALL V W Z D S F h = x at hI hZ hV ⊢
  unfold pickX
  by_cases hno : leastK x.S (rdy h) N < 0
  · rw [if_pos hno]
    exact ⟨by rw [hV]; exact hI.far.mono (by unfold CM PM; omega), hI.w, hI.all, hI.z, hI.d⟩
  · rw [if_neg hno]
    obtain ⟨kn, hkn, hkN, hkr, hkS⟩ := pick_some (F := x.F) (V := x.V) hno
    simp only [hkn, Int.toNat_natCast]
    have hpos : 0 < h kn := by simpa [rdy] using hkr
    have hle := (headOk (hh kn hkN)).2
    have h2 := hI.far.2.2 (leastK x.S (rdy h) N).toNat (by have := (leastK_lt x.S (rdy h) N).2; omega)
    have h3 := hI.far.1
    have h4 := hI.far.2.1
    rw [hV]
    refine ⟨⟨by omega, by unfold CM PM at *; omega, fun i hi => ?_⟩, hI.w, hI.all, hI.z, fun i hi hd => ?_⟩
    · have := hI.far.2.2 i hi
      unfold CM PM at *
      omega
    · unfold upb at hd
      by_cases e : i = kn
      · subst e; rw [hZ i hi]; exact hpos
      · rw [if_neg e] at hd; exact hI.d i hi hd
/-- Where the heads of queues are that went on so far. -/
def headsQ (Q : Nat → List Int) (t : Nat → Nat) : Nat → Int := fun i => (Q i).getD (t i) 0
def upn (t : Nat → Nat) (k x : Nat) : Nat → Nat := fun i => if i = k then x else t i
def stepX (N : Nat) (ALL : Int) (W : Nat → Int) (Q : Nat → List Int) (x : Sched) (t : Nat → Nat) : Picked := pickX N (headsQ Q t) (toldN N ALL x.V W x.Z x.D x.S x.F (headsQ Q t))
/-- Which flows are served, one by one. -/
def servedN (N : Nat) (ALL : Int) (W : Nat → Int) (Q : Nat → List Int) : Nat → Sched → (Nat → Nat) → List Int
  | 0, _, _ => []
  | m + 1, x, t => if (stepX N ALL W Q x t).ok = true then (stepX N ALL W Q x t).k :: servedN N ALL W Q m (stepX N ALL W Q x t).x (upn t (stepX N ALL W Q x t).k.toNat (t (stepX N ALL W Q x t).k.toNat + 1)) else []
def sched0 : Sched := ⟨0, nz, nd, nz, nz⟩
theorem inv0 {N : Nat} {W : Nat → Int} (h8 : N ≤ 8) (hW : ∀ i, i < N → 1 ≤ W i ∧ W i ≤ 16) : Inv 0 (sumW W N) 0 N W nz nd nz nz := by
  have h1 := sumW_b hW N (Nat.le_refl _)
  have hle : ∀ n, n ≤ N → ∀ i, i < n → W i ≤ sumW W n := by
    intro n
    induction n with
    | zero => intro _ i hi; omega
    | succ n ih =>
      intro hn i hi
      have h2 := ih (by omega)
      have h3 := sumW_b hW n (by omega)
      have h4 := hW n (by omega)
      simp only [sumW]
      by_cases e : i = n
      · subst e; omega
      · have := h2 i (by omega); omega
  exact ⟨⟨Int.le_refl _, Int.le_refl _, fun i _ => ⟨Int.le_refl _, Int.le_refl _, Int.le_refl _⟩⟩, fun i hi => ⟨(hW i hi).1, (hW i hi).2, hle N (Nat.le_refl _) i hi⟩, by omega, fun i _ => by simp [nz], fun i _ h => by simp [nd] at h⟩
/-- How many are left. -/
def leftQ (Q : Nat → List Int) (t : Nat → Nat) : Nat → Nat
  | 0 => 0
  | n + 1 => leftQ Q t n + ((Q n).length - t n)
theorem leftQ_same {Q : Nat → List Int} {t t' : Nat → Nat} : ∀ n, (∀ i, i < n → t i = t' i) → leftQ Q t n = leftQ Q t' n
  | 0, _ => rfl
  | n + 1, h => by simp only [leftQ]; rw [leftQ_same n (fun i hi => h i (by omega)), h n (by omega)]
theorem leftQ_step {Q : Nat → List Int} {t : Nat → Nat} {k : Nat} (hk : t k < (Q k).length) : ∀ n, k < n → leftQ Q (upn t k (t k + 1)) n + 1 = leftQ Q t n
  | 0, h => by omega
  | n + 1, h => by
    simp only [leftQ]
    by_cases e : k = n
    · subst e
      rw [leftQ_same (t' := t) k (fun i hi => by unfold upn; rw [if_neg (by omega)])]
      have e2 : upn t k (t k + 1) k = t k + 1 := if_pos rfl
      rw [e2]
      omega
    · have := leftQ_step hk n (by omega)
      have e2 : upn t k (t k + 1) n = t n := if_neg (fun q => e q.symm)
      rw [e2]
      omega
theorem leftQ_pos {Q : Nat → List Int} {t : Nat → Nat} : ∀ n, 0 < leftQ Q t n → ∃ i, i < n ∧ t i < (Q i).length
  | 0, h => by simp [leftQ] at h
  | n + 1, h => by
    simp only [leftQ] at h
    by_cases e : t n < (Q n).length
    · exact ⟨n, by omega, e⟩
    · obtain ⟨i, a, b⟩ := leftQ_pos (Q := Q) (t := t) n (by omega)
      exact ⟨i, by omega, b⟩
theorem leftQ_none {Q : Nat → List Int} {t : Nat → Nat} {n i : Nat} (h : leftQ Q t n = 0) (hi : i < n) : (Q i).length ≤ t i := by
  induction n with
  | zero => omega
  | succ n ih =>
    simp only [leftQ] at h
    by_cases e : i = n
    · subst e; omega
    · exact ih (by omega) (by omega)
/-- Good sizes. -/
def goodQ (Q : Nat → List Int) (N : Nat) : Prop := ∀ i, i < N → ∀ x, x ∈ Q i → 1 ≤ x ∧ x ≤ 1500
theorem headsQ_in {Q : Nat → List Int} {N : Nat} (hg : goodQ Q N) {t : Nat → Nat} {i : Nat} (hi : i < N) (ht : t i < (Q i).length) : 1 ≤ headsQ Q t i ∧ headsQ Q t i ≤ 1500 := by
  unfold headsQ
  rw [List.getD_eq_getElem?_getD, List.getElem?_eq_getElem ht]
  exact hg i hi _ (List.getElem_mem ht)
theorem headsQ_out {Q : Nat → List Int} {t : Nat → Nat} {i : Nat} (ht : (Q i).length ≤ t i) : headsQ Q t i = 0 := by
  unfold headsQ
  rw [List.getD_eq_getElem?_getD, List.getElem?_eq_none ht]
  rfl
theorem headsQ_ok {Q : Nat → List Int} {N : Nat} (hg : goodQ Q N) (t : Nat → Nat) : ∀ i, i < N → headBad (headsQ Q t i) = false := fun i hi => by
  unfold headBad
  by_cases ht : t i < (Q i).length
  · have := headsQ_in hg hi ht
    simp; omega
  · rw [headsQ_out (by omega)]; simp
/-- What is picked is ready. -/
theorem stepX_yes {N : Nat} {ALL : Int} {W : Nat → Int} {Q : Nat → List Int} {x : Sched} {t : Nat → Nat} (hg : goodQ Q N) (h : (stepX N ALL W Q x t).ok = true) : ∃ k : Nat, (stepX N ALL W Q x t).k = (k : Int) ∧ k < N ∧ t k < (Q k).length := by
  unfold stepX at h ⊢
  generalize toldN N ALL x.V W x.Z x.D x.S x.F (headsQ Q t) = y at h ⊢
  unfold pickX at h ⊢
  by_cases hno : leastK y.S (rdy (headsQ Q t)) N < 0
  · rw [if_pos hno] at h; simp at h
  · rw [if_neg hno]
    obtain ⟨kn, hkn, hkN, hkr, hkS⟩ := pick_some (F := y.F) (V := y.V) hno
    refine ⟨kn, by simp only [hkn], hkN, ?_⟩
    have hpos : 0 < headsQ Q t kn := by simpa [rdy] using hkr
    refine Classical.byContradiction fun q => ?_
    rw [headsQ_out (by omega)] at hpos
    omega
theorem stepX_no {N : Nat} {ALL : Int} {W : Nat → Int} {Q : Nat → List Int} {x : Sched} {t : Nat → Nat} (hg : goodQ Q N) (h : (stepX N ALL W Q x t).ok = false) : leftQ Q t N = 0 := by
  unfold stepX at h
  generalize toldN N ALL x.V W x.Z x.D x.S x.F (headsQ Q t) = y at h
  unfold pickX at h
  by_cases hno : leastK y.S (rdy (headsQ Q t)) N < 0
  · refine Classical.byContradiction fun q => ?_
    obtain ⟨i, hi, ht⟩ := leftQ_pos (Q := Q) (t := t) N (by omega)
    have h1 := leastK_no hno i hi
    have h2 := headsQ_in hg hi ht
    simp [rdy] at h1
    omega
  · rw [if_neg hno] at h; simp at h
end Fa
end Go.Proofs.Ytbbcongfaoopcaa
namespace Go.Proofs.Ytbbcongfaoopcaa
open Go.ChangeShapes Go.WideShapes Go.ChangeAt Go.RowKit Go.Maps
set_option linter.unusedVariables false
set_option linter.unusedSimpArgs false
open BigFrame Pk Fq Vr Fa

namespace Fa
def zC (l : List Int) : List Value := l.map (fun x => .int .i64 x)
theorem zC_len (l : List Int) : (zC l).length = l.length := by simp [zC]
theorem zC_at {l : List Int} {i : Nat} {x : Int} (h : l[i]? = some x) : (zC l)[i]? = some (.int .i64 x) := by simp [zC, h]
theorem zC_app (l : List Int) (x : Int) : zC (l ++ [x]) = zC l ++ [.int .i64 x] := by simp [zC]
/-- A slice of ints reads so. -/
structure IAt (w : World) (a : Option Addr) (n c : Nat) (d : List Int) : Prop where
  len : d.length = n
  cap : n ≤ c
  max : c ≤ 9223372036854775807
  row : 0 < n → ∃ b off, a = some ⟨b, off, none⟩ ∧ b < w.heap.size ∧ ∀ i x, d[i]? = some x → w.cell? ⟨b, off + i, none⟩ = some (.int .i64 x)
theorem IAt.below {w w' : World} {a : Option Addr} {n c m : Nat} {d : List Int} (h : IAt w a n c d) (k : Below m w w') (hm : ∀ b off, a = some ⟨b, off, none⟩ → 0 < n → b < m) : IAt w' a n c d :=
  ⟨h.len, h.cap, h.max, fun hn => by
    obtain ⟨b, off, rfl, hb, hc⟩ := h.row hn
    exact ⟨b, off, rfl, Nat.lt_of_lt_of_le hb k.size, fun i x hx => (k.cell (p := ⟨b, off + i, none⟩) (hm b off rfl hn)).trans (hc i x hx)⟩⟩
theorem IAt.bel {w w' : World} {a : Option Addr} {n c : Nat} {d : List Int} (h : IAt w a n c d) (k : Below w.heap.size w w') : IAt w' a n c d :=
  h.below k (fun b off e hn => by obtain ⟨b', off', e', hb, _⟩ := h.row hn; rw [e] at e'; cases e'; exact hb)
theorem IAt.nil (w : World) (a : Option Addr) (c : Nat) (h : c ≤ 9223372036854775807) : IAt w a 0 c [] := ⟨rfl, Nat.zero_le _, h, fun q => absurd q (Nat.lt_irrefl _)⟩
/-- A row of slices. -/
def sC (A : Nat → Option Addr) (L C : Nat → Nat) (N : Nat) : List Value := (List.range N).map fun i => .slice (A i) (L i) (C i)
theorem sC_len (A : Nat → Option Addr) (L C : Nat → Nat) (N : Nat) : (sC A L C N).length = N := by simp [sC]
theorem sC_at (A : Nat → Option Addr) (L C : Nat → Nat) (N i : Nat) (h : i < N) : (sC A L C N)[i]? = some (.slice (A i) (L i) (C i)) := by simp [sC, h]
theorem sC_one (A : Nat → Option Addr) (L C : Nat → Nat) (N : Nat) : ∀ u ∈ sC A L C N, u.oneCell' = true := by
  intro u hu
  obtain ⟨i, _, rfl⟩ := List.mem_map.1 hu
  rfl
/-- Queues as they came in. -/
structure QsAt (w : World) (a : Option Addr) (b off N : Nat) (A : Nat → Option Addr) (L C : Nat → Nat) (Q : Nat → List Int) : Prop where
  ha : 0 < N → a = some ⟨b, off, none⟩
  hb : 0 < N → b < w.heap.size
  c0 : ∀ i, i < N → w.cell? ⟨b, off + i, none⟩ = some (.slice (A i) (L i) (C i))
  q : ∀ i, i < N → IAt w (A i) (L i) (C i) (Q i)
theorem QsAt.bel {w w' : World} {a : Option Addr} {b off N : Nat} {A : Nat → Option Addr} {L C : Nat → Nat} {Q : Nat → List Int} (h : QsAt w a b off N A L C Q) (k : Below w.heap.size w w') : QsAt w' a b off N A L C Q :=
  ⟨h.ha, fun hn => Nat.lt_of_lt_of_le (h.hb hn) k.size, fun i hi => (k.cell (p := ⟨b, off + i, none⟩) (h.hb (by omega))).trans (h.c0 i hi), fun i hi => (h.q i hi).bel k⟩
def OwnZ (w : World) (B : Nat) (v : Value) (l : List Int) : Prop := w.ownsRow B 3 1 v l.length (zC l)
theorem OwnZ.lt {w : World} {B : Nat} {v : Value} {l : List Int} (h : OwnZ w B v l) {q : Nat} (hq : v.ownBlock = some q) : B ≤ q ∧ q < w.heap.size := by
  unfold OwnZ at h
  exact h.lt q hq
theorem OwnZ.kf {w w' : World} {B : Nat} {v : Value} {r : List Int} {l : List Nat} (h : OwnZ w B v r) (k : KF l w w') (hl : ∀ q, v.ownBlock = some q → q ∉ l) : OwnZ w' B v r := by
  refine ⟨h.1, ?_⟩
  rcases h.2 with hh | ⟨g, cap, cur, h1, h2, h3, h4⟩
  · exact .inl hh
  · exact .inr ⟨g, cap, cur, h1, h2, (k.k g (Array.getElem?_eq_some_iff.1 h3).1 (hl g (by rw [h1]; rfl))).trans h3, h4⟩
theorem OwnZ.nil (w : World) (B : Nat) : OwnZ w B (.slice none 0 0) [] := ⟨rfl, .inl ⟨rfl, rfl⟩⟩
theorem OwnZ.iat {w : World} {B : Nat} {a : Option Addr} {n c : Nat} {l : List Int} (h : OwnZ w B (.slice a n c) l) (hn : n = l.length) (hc : n ≤ c) (hm : c ≤ 9223372036854775807) : IAt w a n c l := by
  refine ⟨hn.symm, hc, hm, fun h0 => ?_⟩
  subst hn
  unfold OwnZ at h
  obtain ⟨g, cap, e, hb, hl⟩ := h.form h0
  cases e
  refine ⟨g, 0, rfl, hl, fun i x hx => ?_⟩
  have hi : i < l.length := (List.getElem?_eq_some_iff.1 hx).1
  rw [Nat.zero_add, h.cellAt i (by omega)]
  exact zC_at hx
theorem info_int : (Try.prog.info? 3).map (fun i => (i.zero, i.size, i.bytes)) = some (some (.int .i64 0), 1, 8) := by kernel_rfl
theorem wpList_appZ {w : World} {ops : Array Oper} {rest : List Oper} {o : Oper} {a : Act} {Q : Exit → Act → World → Prop} (hgd : o.guard = none) (s x : Operand)
    (ho : o.op = .call { callee := .builtin .append, args := #[s, x], argTypes := #[22, 22] }) (B : Nat) (v : Value) (l : List Int) (y : Int) (hs : a.eval s = v) (hown : OwnZ w B v l) (hB : B ≤ w.heap.size)
    {q c : Nat} (hx : a.eval x = .slice (some ⟨q, 0, none⟩) 1 c) (hk : Blk w q [.int .i64 y]) (hl : l.length ≤ 1000000)
    (h : ∀ (a' : Option Addr) (n' c' : Nat) w', OwnZ w' B (.slice a' n' c') (l ++ [y]) → n' = l.length + 1 → w'.heap.size ≥ w.heap.size → w.grownBy w' v.ownBlock → ((Value.slice a' n' c').ownBlock = v.ownBlock ∨ (Value.slice a' n' c').ownBlock = some w.heap.size) → wpList Try.prog ops Q rest (a.put o.dst (.slice a' n' c')) w') : wpList Try.prog ops Q (o :: rest) a w := by
  obtain ⟨i0, hi0, hz0, hz1, hz2⟩ := info_parts info_int
  refine wpList_append_own_at w hgd s x 22 ho B 3 i0 _ 1 8 Try.underlying22 hi0 hz0 hz1 hz2 rfl (by omega) v l.length (zC l) hs hown ⟨q, 0, none⟩ 1 c [.int .i64 y] hx rfl (fun j u hj => ?_) (by intro u hu; simp at hu; rcases hu with rfl; rfl) (by unfold maxLen; omega) (by omega) hB (fun v' w' h1 h2 _ h4 => ?_)
  · have := hk.c j u hj
    rw [Addr.add_lit, Nat.zero_add]
    exact this
  · have h3 : OwnZ w' B v' (l ++ [y]) := by
      unfold OwnZ
      rw [zC_app, List.length_append]
      exact h1
    have h5 := h3
    unfold OwnZ at h5
    rcases h5.2 with ⟨e, e2⟩ | ⟨g, cap, cur, e, _⟩
    · simp at e2
    · subst e
      exact h _ _ _ w' h3 (by simp) h2.size h2 h4
/-- Heads: their sizes, no weights. -/
def OwnH (w : World) (B : Nat) (v : Value) (H : Nat → Int) (n : Nat) : Prop := w.ownsRow B 60 2 v n (tagV H nz n)
theorem OwnH.lt {w : World} {B : Nat} {v : Value} {H : Nat → Int} {n : Nat} (h : OwnH w B v H n) {q : Nat} (hq : v.ownBlock = some q) : B ≤ q ∧ q < w.heap.size := by
  unfold OwnH at h
  exact h.lt q hq
theorem OwnH.kf {w w' : World} {B : Nat} {v : Value} {H : Nat → Int} {n : Nat} {l : List Nat} (h : OwnH w B v H n) (k : KF l w w') (hl : ∀ q, v.ownBlock = some q → q ∉ l) : OwnH w' B v H n := by
  refine ⟨h.1, ?_⟩
  rcases h.2 with hh | ⟨g, cap, cur, h1, h2, h3, h4⟩
  · exact .inl hh
  · exact .inr ⟨g, cap, cur, h1, h2, (k.k g (Array.getElem?_eq_some_iff.1 h3).1 (hl g (by rw [h1]; rfl))).trans h3, h4⟩
theorem OwnH.nil (w : World) (B : Nat) (H : Nat → Int) : OwnH w B (.slice none 0 0) H 0 := ⟨rfl, .inl ⟨rfl, rfl⟩⟩
theorem OwnH.tags {w : World} {B : Nat} {a : Option Addr} {n c : Nat} {H : Nat → Int} (h : OwnH w B (.slice a n c) H n) (hn : 0 < n) : ∃ g, a = some ⟨g, 0, none⟩ ∧ B ≤ g ∧ TagsAt w (some ⟨g, 0, none⟩) g 0 n H nz := by
  unfold OwnH at h
  obtain ⟨g, cap, e, hb, hl⟩ := h.form hn
  cases e
  refine ⟨g, rfl, hb, fun _ => rfl, fun _ => hl, fun i hi => ?_, fun i hi => ?_⟩
  · rw [Nat.zero_add, h.cellAt (i * 2) (by omega)]
    exact (tagV_at H nz n i hi).1
  · rw [Nat.zero_add, h.cellAt (i * 2 + 1) (by omega)]
    exact (tagV_at H nz n i hi).2
theorem info_head : (Try.prog.info? 60).map (fun i => (i.zero, i.size, i.bytes)) = some (some (.agg #[.int .i64 0, .int .i64 0]), 2, 16) := by kernel_rfl
theorem wpList_appH {w : World} {ops : Array Oper} {rest : List Oper} {o : Oper} {a : Act} {Q : Exit → Act → World → Prop} (hgd : o.guard = none) (s x : Operand)
    (ho : o.op = .call { callee := .builtin .append, args := #[s, x], argTypes := #[43, 43] }) (B : Nat) (v : Value) (H : Nat → Int) (n : Nat) (hs : a.eval s = v) (hown : OwnH w B v H n) (hB : B ≤ w.heap.size)
    {q c : Nat} (hx : a.eval x = .slice (some ⟨q, 0, none⟩) 1 c) (hk : Blk w q [.int .i64 (H n), .int .i64 0]) (hl : n ≤ 1000000)
    (h : ∀ (a' : Option Addr) (n' c' : Nat) w', OwnH w' B (.slice a' n' c') H (n + 1) → n' = n + 1 → w'.heap.size ≥ w.heap.size → w.grownBy w' v.ownBlock → ((Value.slice a' n' c').ownBlock = v.ownBlock ∨ (Value.slice a' n' c').ownBlock = some w.heap.size) → wpList Try.prog ops Q rest (a.put o.dst (.slice a' n' c')) w') : wpList Try.prog ops Q (o :: rest) a w := by
  obtain ⟨i0, hi0, hz0, hz1, hz2⟩ := info_parts info_head
  refine wpList_append_own_at w hgd s x 43 ho B 60 i0 _ 2 16 Try.underlying43 hi0 hz0 hz1 hz2 rfl (by omega) v n (tagV H nz n) hs hown ⟨q, 0, none⟩ 1 c [.int .i64 (H n), .int .i64 0] hx rfl (fun j u hj => ?_) (by intro u hu; simp at hu; rcases hu with rfl | rfl <;> rfl) (by unfold maxLen; omega) (by omega) hB (fun v' w' h1 h2 _ h4 => ?_)
  · have := hk.c j u hj
    rw [Addr.add_lit, Nat.zero_add]
    exact this
  · have h3 : OwnH w' B v' H (n + 1) := by
      unfold OwnH
      rw [tagV_succ]
      exact h1
    rcases h3.2 with ⟨e, e2⟩ | ⟨g, cap, cur, e, _⟩
    · simp at e2
    · subst e
      exact h _ _ _ w' h3 rfl h2.size h2 h4
theorem info_ints : (Try.prog.info? 22).map (fun i => (i.zero, i.size, i.bytes)) = some (some (.slice none 0 0), 1, 24) := by kernel_rfl
def CloneQ (N : Nat) (A : Nat → Option Addr) (L C : Nat → Nat) (w : World) (e : Ending) (w' : World) : Prop := ∃ (g c : Nat), e = .returned (.slice (some ⟨g, 0, none⟩) N c) ∧ Blk w' g (sC A L C N) ∧ w.heap.size ≤ g ∧ Below w.heap.size w w'
def sizeBad (x : Int) : Bool := decide (x < 1) || decide (1500 < x)
end Fa
@[local go_sem]
theorem eql_qs_some (a : Addr) (l c : Nat) (u : World) : Sem.run Try.prog (binOp BinOp.eql 23 (.slice (some a) l c) (.slice none 0 0)) u = .ok (.bool false) u := by rfl

set_option maxRecDepth 100000 in
theorem qclone_c {a : Option Addr} {b off N : Nat} {A : Nat → Option Addr} {L C : Nat → Nat} {Q : Nat → List Int} (c : Nat) (w : World) (T : QsAt w a b off N A L C Q) (hN : N ≤ 1000) (h0 : 0 < N) :
    Calls Try.prog 22 #[.slice a N c] w (CloneQ N A L C w) := by
  obtain ⟨i0, hi0, hz0, hz1, hz2⟩ := info_parts info_ints
  obtain rfl := T.ha h0
  have hown0 : (w.alloc (.cells #[] 22)).ownsRow w.heap.size 22 1 (.slice (some ⟨w.heap.size, 0, none⟩) 0 0) 0 [] := World.ownsRow_lit (base := w.heap.size) (e := 22) (size := 1) w #[] 0 (Nat.le_refl _) (by unfold maxLen; omega) (by rfl)
  have hB0 : Below w.heap.size w (w.alloc (.cells #[] 22)) := (Below.refl _ _).alloc (Nat.le_refl _) _
  have hcells : ∀ j u, (sC A L C N)[j]? = some u → (w.alloc (.cells #[] 22)).cell? ((⟨b, off, none⟩ : Addr).add j) = some u := fun j u hu => by
    have hj : j < N := by have := (List.getElem?_eq_some_iff.1 hu).1; rwa [sC_len] at this
    rw [Addr.add_lit]
    refine (hB0.cell (p := ⟨b, off + j, none⟩) (T.hb h0)).trans ?_
    rw [sC_at A L C N j hj] at hu
    rw [← hu]
    exact T.c0 j hj
  have hmx : 0 + N ≤ maxLen := by unfold maxLen; omega
  have hlen : (sC A L C N).length = N * 1 := by rw [sC_len]; omega
  clear T
  go_enter Try.func22, Try.ntmps22
  go_wp2_with (at_builtin; refine wpList_append_lies _ rfl _ _ 23 (by rfl) w.heap.size 22 i0 _ 1 24 Try.underlying23 hi0 hz0 hz1 hz2 (by rfl) (by omega) _ _ _ (by rfl) hown0 ⟨b, off, none⟩ N c _ (by rfl) hlen hcells (sC_one A L C N) h0 hmx (by omega) hB0.size (w.heap.size + 1) (by simp) ?_; intro g1 cap1 w3 hown1 hgrow1 hat1 hlt1)
  rw [Nat.zero_add] at hown1
  have hg : w.heap.size ≤ g1 := (hown1.lt g1 rfl).1
  have hB3 : Below w.heap.size w w3 := hB0.grown hgrow1 hB0.size (fun q hq => by have := (hown0.lt q hq).1; omega)
  go_ret
  refine ⟨g1, cap1, rfl, ⟨fun i x hx => ?_, fun o => hown1.frozenAt o, hlt1⟩, hg, hB3⟩
  have hi : i < (sC A L C N).length := (List.getElem?_eq_some_iff.1 hx).1
  rw [sC_len] at hi
  rw [hown1.cellAt i (by omega), List.nil_append]
  exact hx

set_option maxRecDepth 100000 in
set_option maxHeartbeats 2000000 in
theorem sbad_c (s : Int) (w : World) :
    Calls Try.prog 21 #[.int .i64 s] w fun e w' => e = .returned (.bool (sizeBad s)) ∧ w' = w := by
  unfold sizeBad
  by_cases h1 : s < 1
  · go_enter Try.func21, Try.ntmps21
    go_wp2_with fail
    exact bodyPost_ret (v := .bool true) (by simp [results, Try.results21, go_sem]) rfl ⟨by simp [h1], rfl⟩
  by_cases h3 : 1500 < s
  · go_enter Try.func21, Try.ntmps21
    go_wp2_with fail
    exact bodyPost_ret (v := .bool true) (by simp [results, Try.results21, go_sem]) rfl ⟨by simp [h3], rfl⟩
  · go_enter Try.func21, Try.ntmps21
    go_wp2_with fail
    exact bodyPost_ret (v := .bool false) (by simp [results, Try.results21, go_sem]) rfl ⟨by simp [h1, h3], rfl⟩

set_option maxRecDepth 100000 in
set_option maxHeartbeats 2000000 in
theorem sidx_c (a : Option Addr) (n c : Nat) (d : List Int) (w : World) (T : IAt w a n c d) (hN : n ≤ 100000) :
    Calls Try.prog 37 #[.slice a n c, .func (.func 21) #[] #[]] w fun e w' => ∃ r : Int, e = .returned (.int .i64 r) ∧ (r < 0 ↔ ∀ x, x ∈ d → sizeBad x = false) ∧ w' = w := by
  have hlen := T.len
  by_cases h0 : 0 < n
  · obtain ⟨b, off, rfl, hb, hc⟩ := T.row h0
    replace hc := Lib.hid hc
    clear T
    go_enter Try.func37, Try.ntmps37
    go_wp2_with fail
    go_loopg [5, 8] n (fun gg _ s8 wr => ∃ kk : Nat, kk ≤ n ∧ n - kk ≤ gg ∧ s8 = .int .i64 kk ∧ wr = w ∧ Aside (∀ j x, j < kk → d[j]? = some x → sizeBad x = false))
    case atStart => exact ⟨0, Nat.zero_le _, by omega, rfl, rfl, fun j x hj => absurd hj (Nat.not_lt_zero _)⟩
    case round =>
      obtain ⟨kk, hkk, hg, rfl, rfl, A⟩ := hrel
      by_cases hlt : kk < n
      · have hltz : (kk : Int) < (n : Int) := by omega
        obtain ⟨x, hx⟩ : ∃ x, d[kk]? = some x := ⟨_, List.getElem?_eq_getElem (by omega)⟩
        have l0 := hc.out kk x hx
        replace hx := Lib.hid hx
        have hcall := sbad_c x wr
        cases hq : sizeBad x with
        | true =>
          rw [hq] at hcall
          go_wp2_with fail
          refine hcall.mono ?_
          rintro e w' ⟨rfl, rfl⟩
          go_wp2_with fail
          go_ret
          exact ⟨_, rfl, ⟨fun h => absurd h (by omega), fun h => by have := h x (List.mem_of_getElem? hx.out); rw [hq] at this; cases this⟩, rfl⟩
        | false =>
          rw [hq] at hcall
          go_wp2_with fail
          refine hcall.mono ?_
          rintro e w' ⟨rfl, rfl⟩
          go_wp2_with fail
          go_roundg (n - (kk + 1))
          case measure => omega
          case rel =>
            refine ⟨kk + 1, by omega, by omega, by go_num, rfl, (show Aside _ from fun j y hj hy => ?_)⟩
            by_cases e : j = kk
            · subst e
              rw [hx.out] at hy
              cases hy
              exact hq
            · exact A.out j y (by omega) hy
      · have hltz : ¬ (kk : Int) < (n : Int) := by omega
        have : kk = n := by omega
        subst this
        go_wp2
        go_ret
        refine ⟨_, rfl, ⟨fun _ y hy => ?_, fun _ => by omega⟩, rfl⟩
        obtain ⟨j, hj⟩ := List.getElem?_of_mem hy
        exact A.out j y (by have := (List.getElem?_eq_some_iff.1 hj).1; omega) hj
  · obtain rfl : n = 0 := by omega
    obtain rfl : d = [] := List.eq_nil_of_length_eq_zero hlen
    clear T
    go_enter Try.func37, Try.ntmps37
    go_wp2_with fail
    go_loopg [5, 8] 0 (fun _ _ s8 wr => s8 = .int .i64 0 ∧ wr = w)
    case atStart => exact ⟨rfl, rfl⟩
    case round =>
      obtain ⟨rfl, rfl⟩ := hrel
      go_wp2
      go_ret
      exact ⟨_, rfl, ⟨fun _ x hx => by simp at hx, fun _ => by omega⟩, rfl⟩

set_option maxRecDepth 100000 in
theorem scontains_c (a : Option Addr) (n c : Nat) (d : List Int) (w : World) (T : IAt w a n c d) (hN : n ≤ 100000) :
    Calls Try.prog 20 #[.slice a n c, .func (.func 21) #[] #[]] w fun e w' => e = .returned (.bool (!decide (∀ x, x ∈ d → sizeBad x = false))) ∧ w' = w := by
  have hc := sidx_c a n c d w T hN
  clear T
  go_enter Try.func20, Try.ntmps20
  go_wp2_with (go_at_call 37; refine hc.mono ?_; rintro e w' ⟨r, rfl, hr, rfl⟩)
  go_ret
  refine ⟨?_, rfl⟩
  by_cases h : r < 0
  · rw [decide_eq_true (hr.1 h), decide_eq_false (by omega)]; rfl
  · rw [decide_eq_false (fun k => h (hr.2 k)), decide_eq_true (by omega)]; rfl
end Go.Proofs.Ytbbcongfaoopcaa
namespace Go.Proofs.Ytbbcongfaoopcaa
open Go.ChangeShapes Go.WideShapes Go.ChangeAt Go.RowKit Go.Maps
set_option linter.unusedVariables false
set_option linter.unusedSimpArgs false
open BigFrame Pk Fq Vr Fa

namespace Fa
def t0 : Nat → Nat := fun _ => 0
def upA (A : Nat → Option Addr) (k : Nat) (a : Option Addr) : Nat → Option Addr := fun i => if i = k then a else A i
theorem sC_set (A : Nat → Option Addr) (L C : Nat → Nat) (k : Nat) (a : Option Addr) (n c N : Nat) : (sC A L C N).set k (.slice a n c) = sC (upA A k a) (upn L k n) (upn C k c) N := by
  apply List.ext_getElem?
  intro i
  rw [List.getElem?_set]
  by_cases e : k = i
  · subst e
    by_cases h : k < N
    · rw [if_pos rfl, if_pos (by rw [sC_len]; exact h), sC_at _ _ _ _ _ h]; simp [upA, upn]
    · rw [if_pos rfl, if_neg (by rw [sC_len]; exact h)]
      rw [List.getElem?_eq_none (by rw [sC_len]; omega)]
  · rw [if_neg e]
    by_cases h : i < N
    · rw [sC_at _ _ _ _ _ h, sC_at _ _ _ _ _ h]; simp only [upA, upn]; rw [if_neg (fun q => e q.symm), if_neg (fun q => e q.symm), if_neg (fun q => e q.symm)]
    · rw [List.getElem?_eq_none (by rw [sC_len]; omega), List.getElem?_eq_none (by rw [sC_len]; omega)]
theorem sizeOk {x : Int} : sizeBad x = false ↔ 1 ≤ x ∧ x ≤ 1500 := by
  unfold sizeBad
  simp only [Bool.or_eq_false_iff, decide_eq_false_iff_not]
  omega
theorem leftQ_mono {Q : Nat → List Int} {t : Nat → Nat} {i : Nat} : ∀ n, i ≤ n → leftQ Q t i ≤ leftQ Q t n
  | 0, h => by obtain rfl : i = 0 := by omega
               exact Nat.le_refl _
  | n + 1, h => by
    by_cases e : i = n + 1
    · subst e; exact Nat.le_refl _
    · have := leftQ_mono (Q := Q) (t := t) (i := i) n (by omega)
      simp only [leftQ]
      omega
theorem headsQ_drop (Q : Nat → List Int) (t : Nat → Nat) (i : Nat) : headsQ Q t i = ((Q i).drop (t i)).getD 0 0 := by
  unfold headsQ
  rw [List.getD_eq_getElem?_getD, List.getD_eq_getElem?_getD, List.getElem?_drop, Nat.add_zero]
/-- Where Run stands. -/
structure RunS (w wr : World) (f lb lq N : Nat) (ALL : Int) (W : Nat → Int) (Q : Nat → List Int) (total : Nat) (all : List Int) (x : Sched) (t : Nat → Nat) (m : Nat) (out : List Int) (ov : Value) (cl tb ct : Nat) (A : Nat → Option Addr) (L C : Nat → Nat) : Prop where
  hfd : FD wr f lb cl tb ct N ALL x.V W x.Z x.D x.S x.F
  hinv : Inv ((total - m : Nat) * PM) ALL x.V N W x.Z x.D x.S x.F
  hm : m ≤ total
  hleft : leftQ Q t N = m
  hall : out ++ servedN N ALL W Q m x t = all
  hln : out.length + m = total
  hown : OwnZ wr w.heap.size ov out
  hlq : Blk wr lq (sC A L C N)
  hq : ∀ i, i < N → t i ≤ (Q i).length ∧ IAt w (A i) (L i) (C i) ((Q i).drop (t i))
  hbel : Below w.heap.size w wr
  f1 : w.heap.size ≤ f
  f2 : w.heap.size ≤ lb
  f3 : w.heap.size ≤ tb
  f4 : w.heap.size ≤ lq
  d1 : lq ≠ f
  d2 : lq ≠ lb
  d3 : lq ≠ tb
  d4 : ∀ q, ov.ownBlock = some q → q ≠ f ∧ q ≠ lb ∧ q ≠ tb ∧ q ≠ lq
def RunP (w : World) (l : List Int) (e : Ending) (w' : World) : Prop := ∃ a n c, e = .returned (.slice a n c) ∧ n = l.length ∧ OwnZ w' w.heap.size (.slice a n c) l ∧ Below w.heap.size w w'
end Fa

set_option maxRecDepth 100000 in
set_option maxHeartbeats 20000000 in
theorem frun_ok (w : World) (b off N c c2 b2 off2 : Nat) (g : Nat → Int) (a2 : Option Addr) (A : Nat → Option Addr) (L C : Nat → Nat) (Q : Nat → List Int) (h1 : 1 ≤ N) (h8 : N ≤ 8) (hb : b < w.heap.size) (hc : ∀ i, i < N → w.cell? ⟨b, off + i, none⟩ = some (.int .i64 (g i))) (hg : ∀ i, i < N → 1 ≤ g i ∧ g i ≤ 16)
    (T : QsAt w a2 b2 off2 N A L C Q) (hgood : goodQ Q N) (htot : leftQ Q t0 N ≤ 1000) :
    Calls Try.prog 9 #[.slice (some ⟨b, off, none⟩) N c, .slice a2 N c2] w (RunP w (servedN N (sumW g N) g Q (leftQ Q t0 N) sched0 t0)) := by
  have hN1 : (1 : Int) ≤ (N : Int) := by omega
  have hN8 : (N : Int) ≤ 8 := by omega
  have hnew := Lib.hid (fnew_ok w b off N c g h1 h8 hb hc hg)
  obtain rfl := T.ha (by omega)
  have hb2 := T.hb (by omega)
  replace T := Lib.hid T
  replace hgood := Lib.hid hgood
  replace hg := Lib.hid hg
  clear hc
  go_enter Try.func9, Try.ntmps9
  go_wp2_with fail
  refine hnew.out.mono ?_
  rintro e w1 ⟨f, lb, cl, tb, ct, rfl, hF, hf1, hf2, hf3, hB1⟩
  have T1 := Lib.hid (T.out.bel hB1)
  replace hF := Lib.hid hF
  replace hB1 := Lib.hid hB1
  clear hnew
  go_wp2_with fail
  go_loopw [4, 7, 9, 33] (fun s4 s7 _ s33 wr => ∃ (i : Nat), s4 = .slice none 0 0 ∧ s7 = .int .i64 ((leftQ Q t0 i : Nat) : Int) ∧ s33 = .int .i64 (i : Nat) ∧ i ≤ N ∧ wr = w1) (fun _ _ _ s33 _ => N - (intOf s33).toNat)
  case atStart => exact ⟨0, rfl, rfl, rfl, Nat.zero_le _, rfl⟩
  case round =>
    obtain ⟨i, rfl, rfl, rfl, hi, rfl⟩ := hrel
    have ii : (i : Int) ≤ (N : Int) := by omega
    by_cases hlt : i < N
    · have ii1 : (i : Int) < (N : Int) := by omega
      have x0 := T1.out.c0 i hlt
      have hq := T1.out.q i hlt
      have hmono := leftQ_mono (Q := Q) (t := t0) (i := i + 1) N (by omega)
      have hlen := hq.len
      have hcap := hq.cap
      have hmax := hq.max
      have hstep : leftQ Q t0 (i + 1) = leftQ Q t0 i + L i := by simp only [leftQ, t0]; omega
      have hcont := scontains_c (A i) (L i) (C i) (Q i) wr hq (by omega)
      have hdec : (!decide (∀ x, x ∈ Q i → sizeBad x = false)) = false := by
        rw [decide_eq_true (fun x hx => sizeOk.2 (hgood.out i hlt x hx))]; rfl
      rw [hdec] at hcont
      replace hcont := Lib.hid hcont
      obtain ⟨Li, eL⟩ : ∃ n, L i = n := ⟨_, rfl⟩
      obtain ⟨Ci, eC⟩ : ∃ n, C i = n := ⟨_, rfl⟩
      obtain ⟨Ai, eA⟩ : ∃ n, A i = n := ⟨_, rfl⟩
      obtain ⟨S, eS⟩ : ∃ n, leftQ Q t0 i = n := ⟨_, rfl⟩
      rw [eL, eC] at hcap
      rw [eC] at hmax
      rw [eL, eC, eA] at hcont x0
      rw [hstep, eS, eL] at hmono
      rw [eS, eL] at hstep
      replace hstep := Lib.hid hstep
      have hle : ((S : Nat) : Int) + (Li : Int) ≤ 1000 := by omega
      clear hq hdec eL eC eA hlen
      rw [eS]
      clear eS
      go_wp2_with fail
      refine hcont.out.mono ?_
      rintro e w' ⟨rfl, rfl⟩
      go_wp2_with fail
      go_roundw
      case rel => exact ⟨i + 1, rfl, by rw [hstep.out]; push_cast; rfl, by go_num, hlt, by first | rfl | trivial⟩
      case measure => simp [intOf]; omega
    · obtain rfl : i = N := by omega
      have hcl := Lib.hid (qclone_c c2 wr T1.out (by omega) (by omega))
      go_wp2_with fail
      refine hcl.out.mono ?_
      rintro e w2 ⟨lq, cq, rfl, hLQ, hlq, hB2⟩
      have hsz1 := hB1.out.size
      have hfl := hF.out.b.l
      have hll := hF.out.l.l
      have htl := hF.out.tl
      have hS : RowKit.Hid (RunS w w2 f lb lq i (sumW g i) g Q (leftQ Q t0 i) (servedN i (sumW g i) g Q (leftQ Q t0 i) sched0 t0) sched0 t0 (leftQ Q t0 i) [] (.slice none 0 0) cl tb ct A L C) := Lib.hid
        ⟨hF.out.bel hB2, by rw [Nat.sub_self]; have := inv0 h8 hg.out; simpa [sched0] using this, Nat.le_refl _, rfl, List.nil_append _, by simp, OwnZ.nil _ _, hLQ, fun j hj => ⟨Nat.zero_le _, by have := T.out.q j hj; simpa [t0] using this⟩, hB1.out.trans (hB2.mono hsz1), hf1, hf2, hf3, by omega, by omega, by omega, by omega, fun q e => by cases e⟩
      clear hcl hF T1 hLQ hB1 hB2 T
      obtain ⟨total, htot2⟩ : ∃ n, leftQ Q t0 i = n := ⟨_, rfl⟩
      rw [htot2] at hS htot
      generalize hall : servedN i (sumW g i) g Q total sched0 t0 = all at hS
      replace hall := Lib.hid hall
      replace htot2 := Lib.hid htot2
      go_wp2_with fail
      go_loopg [4, 11, 13, 14, 15, 16] total (fun gg s4 _ _ _ _ _ wr => ∃ (x : Sched) (t : Nat → Nat) (m : Nat) (out : List Int) (ov : Option Addr) (on oc tb ct : Nat) (A : Nat → Option Addr) (L C : Nat → Nat), s4 = .slice ov on oc ∧ on = out.length ∧ m ≤ gg ∧ RowKit.Hid (RunS w wr f lb lq i (sumW g i) g Q total all x t m out (.slice ov on oc) cl tb ct A L C))
      case atStart => exact ⟨sched0, t0, total, [], none, 0, 0, tb, ct, A, L, C, rfl, by first | rfl | trivial, Nat.le_refl _, hS⟩
      case round =>
        obtain ⟨x, t, m, out, ov, on, oc, tb, ct, A, L, C, rfl, hon, hgg, hS⟩ := hrel
        obtain ⟨W2, rfl⟩ : ∃ u : World, u = wr := ⟨_, rfl⟩
        replace hon := Lib.hid hon
        go_wp2_with fail
        go_loopw [11, 13, 14, 52] (fun s11 _ _ s52 wr => ∃ (j : Nat) (hv : Option Addr) (hc : Nat), s11 = .slice hv j hc ∧ s52 = .int .i64 (j : Nat) ∧ j ≤ i ∧ RowKit.Hid (OwnH wr W2.heap.size (.slice hv j hc) (headsQ Q t) j) ∧ RowKit.Hid (Below W2.heap.size W2 wr)) (fun _ _ _ s52 _ => i - (intOf s52).toNat)
        case atStart => exact ⟨0, none, 0, rfl, rfl, Nat.zero_le _, Lib.hid (OwnH.nil _ _ _), Lib.hid (Below.refl _ _)⟩
        case round =>
          obtain ⟨j, hv, hc, rfl, rfl, hj, hO, hB⟩ := hrel
          have jj : (j : Int) ≤ (i : Int) := by omega
          by_cases hjl : j < i
          · have jj1 : (j : Int) < (i : Int) := by omega
            have x0 := (hS.out.hlq.bel hB.out).c j _ (sC_at A L C i j hjl)
            obtain ⟨htj, hqj⟩ := hS.out.hq j hjl
            have hq2 := hqj.bel (hS.out.hbel.trans (hB.out.mono hS.out.hbel.size))
            have hlen := hq2.len
            have hhd := Lib.hid (headsQ_drop Q t j)
            by_cases hpos : 0 < L j
            · obtain ⟨bj, oj, eA, hbj, hcj⟩ := hq2.row hpos
              obtain ⟨y, hy⟩ : ∃ y, ((Q j).drop (t j))[0]? = some y := ⟨_, List.getElem?_eq_getElem (by omega)⟩
              have hhy : RowKit.Hid (headsQ Q t j = y) := Lib.hid (by rw [hhd.out, List.getD_eq_getElem?_getD, hy]; rfl)
              have y0 := hcj 0 y hy
              rw [Nat.add_zero] at y0
              have hpos2 : (0 : Int) < (L j : Int) := by omega
              rw [eA] at x0
              replace hy := Lib.hid hy
              replace hcj := Lib.hid hcj
              clear hq2 hqj hhd eA
              go_upto_region 20 with fail
              have hO3 := hO.out.kf (KF.of (l := []) ((Below.refl wr.heap.size wr).alloc (Nat.le_refl _) (.cells #[.int .i64 y, .int .i64 0] 60))) (fun q hq => by simp)
              have hB3 := hB.out.alloc hB.out.size (.cells #[.int .i64 y, .int .i64 0] 60)
              have xb := blk_new wr (.int .i64 y) (.int .i64 0) 60
              generalize wr.alloc (.cells #[.int .i64 y, .int .i64 0] 60) = W3 at hO3 hB3 xb ⊢
              have q0 := xb.c 0 _ rfl
              have q1 := xb.c 1 _ rfl
              have hbk := Lib.hid (show Blk (W3.alloc (.cells #[.int .i64 y, .int .i64 0] 60)) W3.heap.size [.int .i64 (headsQ Q t j), .int .i64 0] by rw [hhy.out]; exact blk_new W3 (.int .i64 y) (.int .i64 0) 60)
              have hO8 := Lib.hid (hO3.kf (KF.of (l := []) ((Below.refl W3.heap.size W3).alloc (Nat.le_refl _) (.cells #[.int .i64 y, .int .i64 0] 60))) (fun q hq => by simp))
              have hszA := Lib.hid (show W2.heap.size ≤ (W3.alloc (.cells #[.int .i64 y, .int .i64 0] 60)).heap.size by have := hB3.size; simp; omega)
              replace hB3 := Lib.hid hB3
              replace hO3 := Lib.hid hO3
              clear x0 y0 xb
              go_wp2_with (at_builtin; refine wpList_appH rfl _ _ rfl W2.heap.size (.slice hv j hc) (headsQ Q t) j (by rfl) hO8.out hszA.out (by rfl) hbk.out (by omega) ?_; intro a5 n5 c5 w5 hown5 hn5 hsz5 hgrow5 hor5; obtain rfl : n5 = j + 1 := hn5; have hown5 := Lib.hid hown5; have hgrow5 := Lib.hid hgrow5; clear hor5 hsz5 hbk hO8 q0 q1)
              go_roundw
              case rel => exact ⟨j + 1, a5, c5, rfl, by go_num, hjl, hown5, Lib.hid ((hB3.out.alloc hB3.out.size _).grown hgrow5.out hszA.out (fun q hq => (hO3.out.lt hq).1))⟩
              case measure => simp [intOf]; omega
            · have hz : L j = 0 := by omega
              have hhy : RowKit.Hid (headsQ Q t j = 0) := Lib.hid (by rw [hhd.out, List.eq_nil_of_length_eq_zero (hlen.trans hz)]; rfl)
              rw [hz] at x0
              clear hq2 hqj hhd
              go_upto_region 20 with fail
              have hO3 := hO.out.kf (KF.of (l := []) ((Below.refl wr.heap.size wr).alloc (Nat.le_refl _) (.cells #[.int .i64 0, .int .i64 0] 60))) (fun q hq => by simp)
              have hB3 := hB.out.alloc hB.out.size (.cells #[.int .i64 0, .int .i64 0] 60)
              have xb := blk_new wr (.int .i64 0) (.int .i64 0) 60
              generalize wr.alloc (.cells #[.int .i64 0, .int .i64 0] 60) = W3 at hO3 hB3 xb ⊢
              have q0 := xb.c 0 _ rfl
              have q1 := xb.c 1 _ rfl
              have hbk := Lib.hid (show Blk (W3.alloc (.cells #[.int .i64 0, .int .i64 0] 60)) W3.heap.size [.int .i64 (headsQ Q t j), .int .i64 0] by rw [hhy.out]; exact blk_new W3 (.int .i64 0) (.int .i64 0) 60)
              have hO8 := Lib.hid (hO3.kf (KF.of (l := []) ((Below.refl W3.heap.size W3).alloc (Nat.le_refl _) (.cells #[.int .i64 0, .int .i64 0] 60))) (fun q hq => by simp))
              have hszA := Lib.hid (show W2.heap.size ≤ (W3.alloc (.cells #[.int .i64 0, .int .i64 0] 60)).heap.size by have := hB3.size; simp; omega)
              replace hB3 := Lib.hid hB3
              replace hO3 := Lib.hid hO3
              clear x0 xb
              go_wp2_with (at_builtin; refine wpList_appH rfl _ _ rfl W2.heap.size (.slice hv j hc) (headsQ Q t) j (by rfl) hO8.out hszA.out (by rfl) hbk.out (by omega) ?_; intro a5 n5 c5 w5 hown5 hn5 hsz5 hgrow5 hor5; obtain rfl : n5 = j + 1 := hn5; have hown5 := Lib.hid hown5; have hgrow5 := Lib.hid hgrow5; clear hor5 hsz5 hbk hO8 q0 q1)
              go_roundw
              case rel => exact ⟨j + 1, a5, c5, rfl, by go_num, hjl, hown5, Lib.hid ((hB3.out.alloc hB3.out.size _).grown hgrow5.out hszA.out (fun q hq => (hO3.out.lt hq).1))⟩
              case measure => simp [intOf]; omega
          · obtain rfl : j = i := by omega
            obtain ⟨hg3, rfl, hgb, TH⟩ := hO.out.tags (by omega)
            have hbl := hS.out.hbel.trans (hB.out.mono hS.out.hbel.size)
            have dF := hS.out.hfd.bel hB.out
            have hfl2 := hS.out.hfd.b.l
            have hll2 := hS.out.hfd.l.l
            have hinv := hS.out.hinv
            have hm := hS.out.hm
            have hM : ((total - m : Nat) : Int) * PM ≤ 1000000000000000 := by unfold PM; omega
            have hpk := Lib.hid (fpick_ok dF hinv hM hg3 0 hc (headsQ Q t) nz TH (by omega) (by omega) (headsQ_ok hgood.out t))
            have hst : pickX j (headsQ Q t) (toldN j (sumW g j) x.V g x.Z x.D x.S x.F (headsQ Q t)) = stepX j (sumW g j) g Q x t := rfl
            rw [hst] at hpk
            obtain ⟨p, hp⟩ : ∃ p, RowKit.Hid (stepX j (sumW g j) g Q x t = p) := ⟨_, Lib.hid rfl⟩
            rw [hp.out] at hpk
            have hO2 := Lib.hid (hS.out.hown.kf (KF.of (l := []) hB.out) (fun q hq => by simp))
            have hL2 := Lib.hid (hS.out.hlq.bel hB.out)
            have hd4 := Lib.hid hS.out.d4
            have hd12 : f ≠ lq ∧ lb ≠ lq := ⟨fun e => hS.out.d1 e.symm, fun e => hS.out.d2 e.symm⟩
            have hF12 := hS.out.f1
            have hF22 := hS.out.f2
            replace hbl := Lib.hid hbl
            have hinv2 := Lib.hid (hinv.pick (headsQ_ok hgood.out t))
            rw [hst, hp.out] at hinv2
            clear hO TH dF hst hinv hM
            obtain ⟨pk, pok, px⟩ := p
            cases pok with
            | false =>
              have hm0 : m = 0 := by
                have h1 := stepX_no (x := x) (W := g) (ALL := sumW g j) hgood.out (by rw [hp.out])
                rw [← h1]; exact hS.out.hleft.symm
              have hout : RowKit.Hid (out = all) := Lib.hid (by have := hS.out.hall; rw [hm0] at this; simpa [servedN] using this)
              clear hm0
              go_wp2_with fail
              refine hpk.out.mono ?_
              rintro e w4 ⟨tb4, ct4, rfl, F4, ht4, k4⟩
              have hQ := Lib.hid (show RunP w all (.returned (.slice ov on oc)) w4 from ⟨ov, on, oc, rfl, by rw [← hout.out]; exact hon.out, by rw [← hout.out]; exact hO2.out.kf k4 (fun q hq => by have := hd4.out q hq; simp; omega), hbl.out.trans (k4.below (fun q hq => by simp at hq; omega) hbl.out.size)⟩)
              clear F4 k4 ht4 hpk
              go_wp2_with fail
              refine bodyPost_ret (v := .slice ov on oc) (by simp [results, Try.results9, go_sem]) rfl ?_
              rw [htot2.out, hall.out]
              exact hQ.out
            | true =>
              obtain ⟨k, hk1, hk2, hk3⟩ := stepX_yes (x := x) (W := g) (ALL := sumW g j) (t := t) hgood.out (by rw [hp.out])
              rw [hp.out] at hk1
              obtain rfl : pk = (k : Int) := hk1
              go_wp2_with fail
              refine hpk.out.mono ?_
              rintro e w4 ⟨tb4, ct4, rfl, F4, ht4, k4⟩
              have hL4 := k4.blk hL2.out (by simp; omega)
              have hO4 := Lib.hid (hO2.out.kf k4 (fun q hq => by have := hd4.out q hq; simp; omega))
              have hb4 := Lib.hid (hbl.out.trans (k4.below (fun q hq => by simp at hq; omega) hbl.out.size))
              have hkz : (k : Int) < (j : Int) := by omega
              obtain ⟨htk, hqk⟩ := hS.out.hq k hk2
              have hlk := hqk.len
              have hck := hqk.cap
              have hmk := hqk.max
              rw [List.length_drop] at hlk
              obtain ⟨bk, ok, eA, hbk, hck2⟩ := hqk.row (by omega)
              have x0 := hL4.c k _ (sC_at A L C j k hk2)
              have z0 := hL4.f k
              rw [eA] at x0
              obtain ⟨Lk, eL⟩ : ∃ n, RowKit.Hid (L k = n) := ⟨_, Lib.hid rfl⟩
              obtain ⟨Ck, eC⟩ : ∃ n, RowKit.Hid (C k = n) := ⟨_, Lib.hid rfl⟩
              rw [eL.out, eC.out] at x0 hck
              rw [eL.out] at hlk
              rw [eC.out] at hmk
              have hL1 : (1 : Int) ≤ (Lk : Int) := by omega
              have hL2' : (Lk : Int) ≤ (Ck : Int) := by omega
              replace hck2 := Lib.hid hck2
              replace F4 := Lib.hid F4
              replace k4 := Lib.hid k4
              replace ht4 := Lib.hid ht4
              replace hL4 := Lib.hid hL4
              clear hpk hqk
              go_upto_region 26 with fail
              clear x0 z0
              obtain ⟨A5, eA5⟩ : ∃ a, RowKit.Hid ((if Ck = 1 then some (⟨bk, ok, none⟩ : Addr) else some ⟨bk, ok + 1, none⟩) = a) := ⟨_, Lib.hid rfl⟩
              rw [eA5.out]
              have hkb : KF [lq] w4 (w4.setCell ⟨lq, k, none⟩ (.slice A5 (Lk - 1) (Ck - 1))) := (KF.refl [lq] w4).set (p := ⟨lq, k, none⟩) (.inl (by simp)) _
              have hLQ5 : RowKit.Hid (Blk (w4.setCell ⟨lq, k, none⟩ (.slice A5 (Lk - 1) (Ck - 1))) lq (sC (upA A k A5) (upn L k (Lk - 1)) (upn C k (Ck - 1)) j)) := Lib.hid (by rw [← sC_set]; exact hL4.out.set (by rw [sC_len]; exact hk2) _)
              have hlq4 := hL4.out.l
              have hlq2 := hL2.out.l
              have hwr2 := hbl.out.size
              have ht5 : RowKit.Hid (w.heap.size ≤ tb4 ∧ lq ≠ tb4) := Lib.hid (by
                rcases ht4.out with e | e
                · rw [e]; exact ⟨hS.out.f3, hS.out.d3⟩
                · exact ⟨by omega, by omega⟩)
              have F5 := Lib.hid (hkb.fd F4.out (by simp; exact hd12.1) (by simp; exact hd12.2) (by simp; exact fun e => ht5.out.2 e.symm))
              have hO5 := Lib.hid (hO4.out.kf hkb (fun q hq => by have := hd4.out q hq; simp; omega))
              have hB5 := Lib.hid (hb4.out.setCell (p := ⟨lq, k, none⟩) (show w.heap.size ≤ lq from hS.out.f4) (.slice A5 (Lk - 1) (Ck - 1)))
              have htb4 := F4.out.tl
              have hq5 : RowKit.Hid (∀ q, (Value.slice ov on oc).ownBlock = some q → q ≠ tb4 ∧ q < w4.heap.size) := Lib.hid (fun q hq => by
                have h1 := hd4.out q hq
                refine ⟨?_, (hO4.out.lt hq).2⟩
                rcases ht4.out with e | e
                · rw [e]; exact h1.2.2.1
                · have := (hO2.out.lt hq).2; omega)
              have hIq : RowKit.Hid (∀ i, i < j → upn t k (t k + 1) i ≤ (Q i).length ∧ IAt w (upA A k A5 i) (upn L k (Lk - 1) i) (upn C k (Ck - 1) i) ((Q i).drop (upn t k (t k + 1) i))) := Lib.hid (fun i hi => by
                by_cases e : i = k
                · subst e
                  simp only [upn, upA, if_pos]
                  refine ⟨by omega, by rw [List.length_drop]; omega, by omega, by omega, fun hp => ?_⟩
                  refine ⟨bk, ok + 1, ?_, hbk, fun y z hz => ?_⟩
                  · rw [← eA5.out, if_neg (by omega)]
                  · have h1 : ((Q i).drop (t i))[y + 1]? = some z := by rw [List.getElem?_drop] at hz ⊢; rw [← hz]; congr 1; omega
                    have h2 := hck2.out (y + 1) z h1
                    rwa [show ok + (y + 1) = ok + 1 + y by omega] at h2
                · simp only [upn, upA, if_neg e]
                  exact hS.out.hq i hi)
              have hsz4 : (w4.setCell ⟨lq, k, none⟩ (.slice A5 (Lk - 1) (Ck - 1))).heap.size = w4.heap.size := by simp
              rw [← hsz4] at hlq4 htb4 hq5
              have hstepQ := leftQ_step (Q := Q) (t := t) hk3 j hk2
              have hlf := hS.out.hleft
              have hmt := hS.out.hm
              have hall2 := hS.out.hall
              have hlnO := hS.out.hln
              obtain ⟨m, rfl⟩ : ∃ m', m = m' + 1 := ⟨m - 1, by omega⟩
              simp only [servedN] at hall2
              rw [hp.out] at hall2
              simp only [if_true, Int.toNat_natCast] at hall2
              replace hall2 := Lib.hid hall2
              replace hlf := Lib.hid hlf
              replace hstepQ := Lib.hid hstepQ
              replace hlnO := Lib.hid hlnO
              have hsc := Lib.hid (⟨hS.out.f1, hS.out.f2, hS.out.f4, hS.out.d1, hS.out.d2⟩ : w.heap.size ≤ f ∧ w.heap.size ≤ lb ∧ w.heap.size ≤ lq ∧ lq ≠ f ∧ lq ≠ lb)
              clear hS F4 hL4 hO4 hb4 k4 ht4 hsz4 hkb hO2 hL2 hbl hck2
              generalize w4.setCell ⟨lq, k, none⟩ (.slice A5 (Lk - 1) (Ck - 1)) = w5 at hlq4 htb4 hq5 hLQ5 F5 hO5 hB5 ⊢
              have ha := (Below.refl w5.heap.size w5).alloc (Nat.le_refl _) (.cells #[.int .i64 (k : Nat)] 3)
              have hbk5 := Lib.hid (blkN_new w5 [.int .i64 (k : Nat)] 3)
              have hO6 := Lib.hid (hO5.out.kf (KF.of (l := []) ha) (fun q hq => by simp))
              have hszA := Lib.hid (show w.heap.size ≤ (w5.alloc (.cells #[.int .i64 (k : Nat)] 3)).heap.size by have := hB5.out.size; simp; omega)
              have hlo : out.length ≤ 1000000 := by have := hlnO.out; omega
              have hFK := Lib.hid (fun (wz : World) (hgz : (w5.alloc (.cells #[.int .i64 (k : Nat)] 3)).grownBy wz (Value.slice ov on oc).ownBlock) => (⟨F5.out.grown hgz (fun q hq => ⟨(hd4.out q hq).1, (hd4.out q hq).2.1, (hq5.out q hq).1⟩), (KF.grown2 (l := (Value.slice ov on oc).ownBlock.toList) ((KF.refl _ w5).alloc _) hgz (fun q e => by rw [e]; simp)).blk hLQ5.out (fun e => (hd4.out lq (by simpa using e)).2.2.2 rfl), (hB5.out.alloc hB5.out.size _).grown hgz hszA.out (fun q hq => (hO5.out.lt hq).1)⟩ : FD wz f lb cl tb4 ct4 j (sumW g j) px.V g px.Z px.D px.S px.F ∧ Blk wz lq (sC (upA A k A5) (upn L k (Lk - 1)) (upn C k (Ck - 1)) j) ∧ Below w.heap.size w wz))
              go_wp2_with (at_builtin; refine wpList_appZ rfl _ _ rfl w.heap.size (.slice ov on oc) out (k : Int) (by rfl) hO6.out hszA.out (by rfl) hbk5.out hlo ?_; intro a6 n6 c6 w6 hown6 hn6 hsz6 hgrow6 hor6; obtain rfl : n6 = out.length + 1 := hn6; have hown6 := Lib.hid hown6; have hor6 := Lib.hid hor6; have hK6 := Lib.hid (hFK.out w6 hgrow6); clear hsz6 hbk5 hO6 hFK hgrow6)
              go_roundg m
              case measure => omega
              case rel =>
                refine ⟨px, upn t k (t k + 1), m, out ++ [(k : Int)], a6, out.length + 1, c6, tb4, ct4, upA A k A5, upn L k (Lk - 1), upn C k (Ck - 1), rfl, by simp, Nat.le_refl _, Lib.hid ⟨hK6.out.1, ?_, by omega, ?_, ?_, ?_, hown6.out, hK6.out.2.1, hIq.out, hK6.out.2.2, hsc.out.1, hsc.out.2.1, ht5.out.1, hsc.out.2.2.1, hsc.out.2.2.2.1, hsc.out.2.2.2.2, ht5.out.2, fun q hq => ?_⟩⟩
                · have := hinv2.out
                  have e : ((total - m : Nat) : Int) * PM = ((total - (m + 1) : Nat) : Int) * PM + PM := by
                    have : total - m = total - (m + 1) + 1 := by omega
                    rw [this]
                    push_cast
                    rw [Int.add_mul, Int.one_mul]
                  rw [e]
                  exact this
                · have := hstepQ.out; have := hlf.out; omega
                · have := hall2.out
                  rw [List.append_assoc]
                  exact this
                · have := hlnO.out; simp; omega
                · rcases hor6.out with e | e
                  · rw [e] at hq
                    have h1 := hd4.out q hq
                    exact ⟨h1.1, h1.2.1, (hq5.out q hq).1, h1.2.2.2⟩
                  · rw [e] at hq
                    simp at hq
                    have h1 := F5.out.b.l
                    have h2 := F5.out.l.l
                    exact ⟨by omega, by omega, by omega, by omega⟩
end Go.Proofs.Ytbbcongfaoopcaa
namespace Go.Proofs.Ytbbcongfaoopcaa
open Go.ChangeShapes Go.WideShapes Go.ChangeAt Go.RowKit Go.Maps
set_option linter.unusedVariables false
set_option linter.unusedSimpArgs false
open BigFrame Pk Fq Vr Fa

namespace Fa
theorem leastBad (P : Nat → Prop) : ∀ N, (¬ ∀ i, i < N → P i) → ∃ m, m < N ∧ ¬ P m ∧ ∀ i, i < m → P i
  | 0, h => absurd (fun i hi => absurd hi (Nat.not_lt_zero _)) h
  | N + 1, h => by
    by_cases h2 : ∀ i, i < N → P i
    · refine ⟨N, by omega, fun q => h fun i hi => ?_, h2⟩
      by_cases e : i = N
      · subst e; exact q
      · exact h2 i (by omega)
    · obtain ⟨m, a, b, c⟩ := leastBad P N h2
      exact ⟨m, by omega, b, c⟩
def NoNew (w : World) (e : Ending) (w' : World) : Prop := e = .returned (.tuple #[.pointer none, .int .i64 2]) ∧ Below w.heap.size w w'
theorem runP_nil {w w' : World} (h : Below w.heap.size w w') : RunP w [] (.returned (.slice none 0 0)) w' := ⟨none, 0, 0, rfl, rfl, OwnZ.nil _ _, h⟩
def newOk (dw : List Int) : Prop := 1 ≤ dw.length ∧ dw.length ≤ 8 ∧ ∀ x, x ∈ dw → 1 ≤ x ∧ x ≤ 16
def gd (dw : List Int) : Nat → Int := fun i => dw.getD i 0
def runOk (dw : List Int) (nq : Nat) (Q : Nat → List Int) : Prop := newOk dw ∧ nq = dw.length ∧ goodQ Q nq ∧ leftQ Q t0 nq ≤ 1000
open Classical in
noncomputable def runR (dw : List Int) (nq : Nat) (Q : Nat → List Int) : List Int := if runOk dw nq Q then servedN nq (sumW (gd dw) nq) (gd dw) Q (leftQ Q t0 nq) sched0 t0 else []
theorem gd_at {dw : List Int} {i : Nat} (h : i < dw.length) : dw[i]? = some (gd dw i) := by
  unfold gd
  rw [List.getD_eq_getElem?_getD, List.getElem?_eq_getElem h]
  rfl
theorem gd_mem {dw : List Int} {i : Nat} (h : i < dw.length) : gd dw i ∈ dw := List.mem_of_getElem? (gd_at h)
end Fa

set_option maxRecDepth 100000 in
set_option maxHeartbeats 4000000 in
theorem frun_nonew (w : World) (a a2 : Option Addr) (n c n2 c2 : Nat) (hnew : Calls Try.prog 11 #[.slice a n c] w (NoNew w)) :
    Calls Try.prog 9 #[.slice a n c, .slice a2 n2 c2] w (RunP w []) := by
  replace hnew := Lib.hid hnew
  go_enter Try.func9, Try.ntmps9
  go_wp2_with fail
  refine hnew.out.mono ?_
  rintro e w1 ⟨rfl, hB1⟩
  replace hB1 := Lib.hid hB1
  clear hnew
  go_wp2_with fail
  exact bodyPost_ret (v := .slice none 0 0) (by simp [results, Try.results9, go_sem]) rfl (runP_nil hB1.out)

set_option maxRecDepth 100000 in
set_option maxHeartbeats 4000000 in
theorem frun_len (w : World) (a2 : Option Addr) (b off N c n2 c2 : Nat) (g : Nat → Int) (h1 : 1 ≤ N) (h8 : N ≤ 8) (hb : b < w.heap.size) (hc : ∀ i, i < N → w.cell? ⟨b, off + i, none⟩ = some (.int .i64 (g i))) (hg : ∀ i, i < N → 1 ≤ g i ∧ g i ≤ 16) (hne : n2 ≠ N) :
    Calls Try.prog 9 #[.slice (some ⟨b, off, none⟩) N c, .slice a2 n2 c2] w (RunP w []) := by
  have hnew := Lib.hid (fnew_ok w b off N c g h1 h8 hb hc hg)
  have hne2 : ¬ (n2 : Int) = (N : Int) := by omega
  clear hc hg hne
  go_enter Try.func9, Try.ntmps9
  go_wp2_with fail
  refine hnew.out.mono ?_
  rintro e w1 ⟨f, lb, cl, tb, ct, rfl, hF, hf1, hf2, hf3, hB1⟩
  replace hB1 := Lib.hid hB1
  clear hnew hF
  go_wp2_with fail
  exact bodyPost_ret (v := .slice none 0 0) (by simp [results, Try.results9, go_sem]) rfl (runP_nil hB1.out)

set_option maxRecDepth 100000 in
set_option maxHeartbeats 20000000 in
theorem frun_bad (w : World) (b off N c c2 b2 off2 : Nat) (g : Nat → Int) (a2 : Option Addr) (A : Nat → Option Addr) (L C : Nat → Nat) (Q : Nat → List Int) (h1 : 1 ≤ N) (h8 : N ≤ 8) (hb : b < w.heap.size) (hc : ∀ i, i < N → w.cell? ⟨b, off + i, none⟩ = some (.int .i64 (g i))) (hg : ∀ i, i < N → 1 ≤ g i ∧ g i ≤ 16)
    (T : QsAt w a2 b2 off2 N A L C Q) (hl : ∀ i, i < N → L i ≤ 200) (hno : ¬ (goodQ Q N ∧ leftQ Q t0 N ≤ 1000)) :
    Calls Try.prog 9 #[.slice (some ⟨b, off, none⟩) N c, .slice a2 N c2] w (RunP w []) := by
  have hN1 : (1 : Int) ≤ (N : Int) := by omega
  have hN8 : (N : Int) ≤ 8 := by omega
  have hnew := Lib.hid (fnew_ok w b off N c g h1 h8 hb hc hg)
  obtain rfl := T.ha (by omega)
  have hb2 := T.hb (by omega)
  replace T := Lib.hid T
  replace hno := Lib.hid hno
  replace hg := Lib.hid hg
  replace hl := Lib.hid hl
  clear hc
  go_enter Try.func9, Try.ntmps9
  go_wp2_with fail
  refine hnew.out.mono ?_
  rintro e w1 ⟨f, lb, cl, tb, ct, rfl, hF, hf1, hf2, hf3, hB1⟩
  have T1 := Lib.hid (T.out.bel hB1)
  replace hF := Lib.hid hF
  replace hB1 := Lib.hid hB1
  clear hnew
  go_wp2_with fail
  go_loopw [4, 7, 9, 33] (fun s4 s7 _ s33 wr => ∃ (i : Nat), s4 = .slice none 0 0 ∧ s7 = .int .i64 ((leftQ Q t0 i : Nat) : Int) ∧ s33 = .int .i64 (i : Nat) ∧ i ≤ N ∧ wr = w1 ∧ RowKit.Hid (goodQ Q i ∧ leftQ Q t0 i ≤ 1000)) (fun _ _ _ s33 _ => N - (intOf s33).toNat)
  case atStart => exact ⟨0, rfl, rfl, rfl, Nat.zero_le _, rfl, Lib.hid ⟨fun i hi => by omega, by simp [leftQ]⟩⟩
  case round =>
    obtain ⟨i, rfl, rfl, rfl, hi, rfl, hgq⟩ := hrel
    have ii : (i : Int) ≤ (N : Int) := by omega
    by_cases hlt : i < N
    · have ii1 : (i : Int) < (N : Int) := by omega
      have x0 := T1.out.c0 i hlt
      have hq := T1.out.q i hlt
      have hlen := hq.len
      have hcap := hq.cap
      have hmax := hq.max
      have hli := hl.out i hlt
      have hs1 := hgq.out.2
      have hstep : leftQ Q t0 (i + 1) = leftQ Q t0 i + L i := by simp only [leftQ, t0]; omega
      have hcont := scontains_c (A i) (L i) (C i) (Q i) wr hq (by omega)
      obtain ⟨bad, hbad⟩ : ∃ bad, (!decide (∀ x, x ∈ Q i → sizeBad x = false)) = bad := ⟨_, rfl⟩
      rw [hbad] at hcont
      replace hcont := Lib.hid hcont
      have hgood2 : RowKit.Hid (bad = false → goodQ Q (i + 1)) := Lib.hid (fun e => by
        rw [e] at hbad
        have h2 : ∀ x, x ∈ Q i → sizeBad x = false := by simpa using hbad
        intro k hk x hx
        by_cases e : k = i
        · subst e; exact sizeOk.1 (h2 x hx)
        · exact hgq.out.1 k (by omega) x hx)
      obtain ⟨Li, eL⟩ : ∃ n, L i = n := ⟨_, rfl⟩
      obtain ⟨Ci, eC⟩ : ∃ n, C i = n := ⟨_, rfl⟩
      obtain ⟨Ai, eA⟩ : ∃ n, A i = n := ⟨_, rfl⟩
      obtain ⟨S, eS⟩ : ∃ n, leftQ Q t0 i = n := ⟨_, rfl⟩
      rw [eL, eC] at hcap
      rw [eC] at hmax
      rw [eL] at hli
      rw [eS] at hs1
      rw [eL, eC, eA] at hcont x0
      rw [eS, eL] at hstep
      replace hstep := Lib.hid hstep
      clear hq hbad eL eC eA hlen
      rw [eS]
      clear eS
      by_cases hbig : S + Li ≤ 1000
      · have hle : ((S : Nat) : Int) + (Li : Int) ≤ 1000 := by omega
        cases bad with
        | false =>
          go_wp2_with fail
          refine hcont.out.mono ?_
          rintro e w' ⟨rfl, rfl⟩
          go_wp2_with fail
          go_roundw
          case rel => exact ⟨i + 1, rfl, by rw [hstep.out]; push_cast; rfl, by go_num, hlt, by first | rfl | trivial, Lib.hid ⟨hgood2.out (by first | rfl | trivial), by have := hstep.out; omega⟩⟩
          case measure => simp [intOf]; omega
        | true =>
          go_wp2_with fail
          refine hcont.out.mono ?_
          rintro e w' ⟨rfl, rfl⟩
          go_wp2_with fail
          exact bodyPost_ret (v := .slice none 0 0) (by simp [results, Try.results9, go_sem]) rfl (runP_nil hB1.out)
      · have hle : 1000 < ((S : Nat) : Int) + (Li : Int) := by omega
        have hle2 : ((S : Nat) : Int) + (Li : Int) ≤ 1200 := by omega
        go_wp2_with fail
        exact bodyPost_ret (v := .slice none 0 0) (by simp [results, Try.results9, go_sem]) rfl (runP_nil hB1.out)
    · obtain rfl : i = N := by omega
      exact absurd hgq.out hno.out
theorem frun_c (w : World) (aw a2 : Option Addr) (nw cw nq c2 b2 off2 : Nat) (dw : List Int) (A : Nat → Option Addr) (L C : Nat → Nat) (Q : Nat → List Int) (Wt : IAt w aw nw cw dw) (T : QsAt w a2 b2 off2 nq A L C Q) (hl : ∀ i, i < nq → L i ≤ 200) :
    Calls Try.prog 9 #[.slice aw nw cw, .slice a2 nq c2] w (RunP w (runR dw nq Q)) := by
  have hlen := Wt.len
  unfold runR
  by_cases hlw : dw.length < 1 ∨ 8 < dw.length
  · rw [if_neg (fun q => by have := q.1.1; have := q.1.2.1; omega)]
    exact frun_nonew w aw a2 nw cw nq c2 (fnew_len w aw nw cw (by omega))
  · obtain ⟨b, off, rfl, hb, hc⟩ := Wt.row (by omega)
    have hc2 : ∀ i, i < nw → w.cell? ⟨b, off + i, none⟩ = some (.int .i64 (gd dw i)) := fun i hi => hc i _ (gd_at (by omega))
    by_cases hgood : ∀ i, i < nw → 1 ≤ gd dw i ∧ gd dw i ≤ 16
    · have hnok : newOk dw := ⟨by omega, by omega, fun x hx => by
        obtain ⟨i, hi, rfl⟩ := List.getElem_of_mem hx
        have := hgood i (by omega)
        have e := gd_at hi
        rw [List.getElem?_eq_getElem hi] at e
        injection e with e
        rw [e]; exact this⟩
      by_cases hnq : nq = nw
      · subst hnq
        by_cases hq : goodQ Q nq ∧ leftQ Q t0 nq ≤ 1000
        · rw [if_pos ⟨hnok, hlen.symm, hq.1, hq.2⟩]
          exact frun_ok w b off nq cw c2 b2 off2 (gd dw) a2 A L C Q (by omega) (by omega) hb hc2 hgood T hq.1 hq.2
        · rw [if_neg (fun q => hq q.2.2)]
          exact frun_bad w b off nq cw c2 b2 off2 (gd dw) a2 A L C Q (by omega) (by omega) hb hc2 hgood T hl hq
      · rw [if_neg (fun q => hnq (by rw [q.2.1, hlen]))]
        exact frun_len w a2 b off nw cw nq c2 (gd dw) (by omega) (by omega) hb hc2 hgood hnq
    · rw [if_neg (fun q => hgood (fun i hi => q.1.2.2 _ (gd_mem (by omega))))]
      refine frun_nonew w _ a2 nw cw nq c2 ?_
      obtain ⟨m, hm, hbad, hmin⟩ := leastBad (fun i => 1 ≤ gd dw i ∧ gd dw i ≤ 16) nw hgood
      exact fnew_bad w b off nw cw (gd dw) (by omega) (by omega) hb hc2 m hm hmin (by omega)
end Go.Proofs.Ytbbcongfaoopcaa
namespace Go.Proofs.Ytbbcongfaoopcaa
open Go.ChangeShapes Go.WideShapes Go.ChangeAt Go.RowKit Go.Maps
set_option linter.unusedVariables false
set_option linter.unusedSimpArgs false
open BigFrame Pk Fq Vr Fa

namespace Fa
def qf (l : List (List Int)) : Nat → List Int := fun i => l.getD i []
theorem ex_one : servedN 2 (sumW (gd [1, 1]) 2) (gd [1, 1]) (qf [[10, 10], [10, 10]]) 4 sched0 t0 = [0, 1, 0, 1] := by decide +kernel
theorem ex_two : servedN 2 (sumW (gd [3, 1]) 2) (gd [3, 1]) (qf [[10, 10, 10], [10, 10]]) 5 sched0 t0 = [0, 1, 0, 0, 1] := by decide +kernel
theorem run_one : runR [1, 1] 2 (qf [[10, 10], [10, 10]]) = [0, 1, 0, 1] := by
  unfold runR
  rw [if_pos ⟨⟨by decide, by decide, by decide⟩, rfl, fun i hi x hx => by
    rcases (show i = 0 ∨ i = 1 by omega) with rfl | rfl <;> simp [qf] at hx <;> omega, by decide +kernel⟩]
  exact ex_one
theorem run_two : runR [3, 1] 2 (qf [[10, 10, 10], [10, 10]]) = [0, 1, 0, 0, 1] := by
  unfold runR
  rw [if_pos ⟨⟨by decide, by decide, by decide⟩, rfl, fun i hi x hx => by
    rcases (show i = 0 ∨ i = 1 by omega) with rfl | rfl <;> simp [qf] at hx <;> omega, by decide +kernel⟩]
  exact ex_two
theorem run_none : runR [1] 0 (qf []) = [] := by
  unfold runR
  rw [if_neg (fun q => by have := q.2.1; simp at this)]
theorem iat_blk {w : World} {b n c : Nat} {d : List Int} (h : Blk w b (zC d)) (hn : d.length = n) (hc : n ≤ c) (hm : c ≤ 9223372036854775807) : IAt w (some ⟨b, 0, none⟩) n c d :=
  ⟨hn, hc, hm, fun _ => ⟨b, 0, rfl, h.l, fun i x hx => by rw [Nat.zero_add]; exact h.c i _ (zC_at hx)⟩⟩
/-- Ints are read so. -/
structure IRd (w : World) (a : Option Addr) (n : Nat) (d : List Int) : Prop where
  len : d.length = n
  max : n ≤ 9223372036854775807
  row : 0 < n → ∃ b off, a = some ⟨b, off, none⟩ ∧ b < w.heap.size ∧ ∀ i x, d[i]? = some x → w.cell? ⟨b, off + i, none⟩ = some (.int .i64 x)
theorem IAt.rd {w : World} {a : Option Addr} {n c : Nat} {d : List Int} (h : IAt w a n c d) : IRd w a n d := ⟨h.len, Nat.le_trans h.cap h.max, h.row⟩
theorem IRd.bel {w w' : World} {a : Option Addr} {n : Nat} {d : List Int} (h : IRd w a n d) (k : Below w.heap.size w w') : IRd w' a n d :=
  ⟨h.len, h.max, fun hn => by
    obtain ⟨b, off, rfl, hb, hc⟩ := h.row hn
    exact ⟨b, off, rfl, Nat.lt_of_lt_of_le hb k.size, fun i x hx => (k.cell (p := ⟨b, off + i, none⟩) hb).trans (hc i x hx)⟩⟩
theorem OwnZ.rd {w : World} {B : Nat} {a : Option Addr} {n c : Nat} {l : List Int} (h : OwnZ w B (.slice a n c) l) (hn : n = l.length) (hm : l.length ≤ 9223372036854775807) : IRd w a n l := by
  refine ⟨hn.symm, by omega, fun h0 => ?_⟩
  subst hn
  unfold OwnZ at h
  obtain ⟨g, cap, e, hb, hl⟩ := h.form h0
  cases e
  refine ⟨g, 0, rfl, hl, fun i x hx => ?_⟩
  have hi : i < l.length := (List.getElem?_eq_some_iff.1 hx).1
  rw [Nat.zero_add, h.cellAt i (by omega)]
  exact zC_at hx
def lit3 (w : World) (d0 d1 d2 : List Int) (ti tq : TypeId) : World :=
  (((w.alloc (.cells (zC d0).toArray ti)).alloc (.cells (zC d1).toArray ti)).alloc (.cells (zC d2).toArray ti)).alloc (.cells #[.slice (some ⟨w.heap.size + 1, 0, none⟩) d1.length d1.length, .slice (some ⟨w.heap.size + 1 + 1, 0, none⟩) d2.length d2.length] tq)
theorem lit3_ok (w : World) (d0 d1 d2 : List Int) (ti tq : TypeId) (h0 : d0.length ≤ 1000) (h1 : d1.length ≤ 1000) (h2 : d2.length ≤ 1000) :
    IAt (lit3 w d0 d1 d2 ti tq) (some ⟨w.heap.size, 0, none⟩) d0.length d0.length d0 ∧
    QsAt (lit3 w d0 d1 d2 ti tq) (some ⟨w.heap.size + 1 + 1 + 1, 0, none⟩) (w.heap.size + 1 + 1 + 1) 0 2 (fun i => if i = 0 then some ⟨w.heap.size + 1, 0, none⟩ else some ⟨w.heap.size + 1 + 1, 0, none⟩) (fun i => if i = 0 then d1.length else d2.length) (fun i => if i = 0 then d1.length else d2.length) (qf [d1, d2]) ∧
    Below w.heap.size w (lit3 w d0 d1 d2 ti tq) := by
  unfold lit3
  have b0 := blkN_new w (zC d0) ti
  have k0 := (Below.refl w.heap.size w).alloc (Nat.le_refl _) (.cells (zC d0).toArray ti)
  have s0 : (w.alloc (.cells (zC d0).toArray ti)).heap.size = w.heap.size + 1 := by simp
  generalize w.alloc (.cells (zC d0).toArray ti) = w0 at b0 k0 s0 ⊢
  have b1 := blkN_new w0 (zC d1) ti
  have k1 := (Below.refl w0.heap.size w0).alloc (Nat.le_refl _) (.cells (zC d1).toArray ti)
  have s1 : (w0.alloc (.cells (zC d1).toArray ti)).heap.size = w0.heap.size + 1 := by simp
  generalize w0.alloc (.cells (zC d1).toArray ti) = w1 at b1 k1 s1 ⊢
  have b2 := blkN_new w1 (zC d2) ti
  have k2 := (Below.refl w1.heap.size w1).alloc (Nat.le_refl _) (.cells (zC d2).toArray ti)
  have s2 : (w1.alloc (.cells (zC d2).toArray ti)).heap.size = w1.heap.size + 1 := by simp
  generalize w1.alloc (.cells (zC d2).toArray ti) = w2 at b2 k2 s2 ⊢
  have b3 := blkN_new w2 [.slice (some ⟨w.heap.size + 1, 0, none⟩) d1.length d1.length, .slice (some ⟨w.heap.size + 1 + 1, 0, none⟩) d2.length d2.length] tq
  have k3 := (Below.refl w2.heap.size w2).alloc (Nat.le_refl _) (.cells [.slice (some ⟨w.heap.size + 1, 0, none⟩) d1.length d1.length, .slice (some ⟨w.heap.size + 1 + 1, 0, none⟩) d2.length d2.length].toArray tq)
  rw [s2, s1, s0] at b3
  rw [s1, s0] at b2
  rw [s0] at b1
  have b0' := ((b0.bel k1).bel k2).bel k3
  have b1' := (b1.bel k2).bel k3
  have b2' := b2.bel k3
  refine ⟨iat_blk b0' rfl (Nat.le_refl _) (by omega), ⟨fun _ => rfl, fun _ => b3.l, fun i hi => ?_, fun i hi => ?_⟩, ?_⟩
  · rcases (show i = 0 ∨ i = 1 by omega) with rfl | rfl
    · exact b3.c 0 _ rfl
    · exact b3.c 1 _ rfl
  · rcases (show i = 0 ∨ i = 1 by omega) with rfl | rfl
    · exact iat_blk b1' rfl (Nat.le_refl _) (by show d1.length ≤ _; omega)
    · exact iat_blk b2' rfl (Nat.le_refl _) (by show d2.length ≤ _; omega)
  · exact bNext (bNext (bNext k0 k1 (by omega)) k2 (by omega)) k3 (by omega)
/-- The same ints? -/
theorem row_end {d1 d2 : List Int} {n : Nat} (h1 : d1.length = n) (h2 : d2.length = n) (h : ∀ i, i < n → d1[i]? = d2[i]?) : d1 = d2 := by
  apply List.ext_getElem?
  intro i
  by_cases hi : i < n
  · exact h i hi
  · rw [List.getElem?_eq_none (by omega), List.getElem?_eq_none (by omega)]
end Fa

set_option maxRecDepth 100000 in
set_option maxHeartbeats 4000000 in
theorem row_c (w : World) (a1 a2 : Option Addr) (n1 c1 n2 c2 : Nat) (d1 d2 : List Int) (T1 : IRd w a1 n1 d1) (T2 : IRd w a2 n2 d2) :
    Calls Try.prog 8 #[.slice a1 n1 c1, .slice a2 n2 c2] w fun e w' => e = .returned (.bool (decide (d1 = d2))) ∧ Below w.heap.size w w' := by
  have hl1 := T1.len
  have hl2 := T2.len
  have hm1 := T1.max
  have hm2 := T2.max
  replace T1 := Lib.hid T1
  replace T2 := Lib.hid T2
  by_cases hn : n1 = n2
  · subst hn
    have hnz : (n1 : Int) ≤ 9223372036854775807 := by omega
    replace hl1 := Lib.hid hl1
    replace hl2 := Lib.hid hl2
    go_enter Try.func8, Try.ntmps8
    go_wp2_with fail
    go_loopw [5] (fun s3 wr => ∃ kk : Nat, kk ≤ n1 ∧ s3 = .int .i64 (kk : Nat) ∧ Below w.heap.size w wr ∧ RowKit.Hid (∀ i, i < kk → d1[i]? = d2[i]?)) (fun s3 _ => n1 - (intOf s3).toNat)
    case atStart => exact ⟨0, Nat.zero_le _, rfl, Below.refl _ _, Lib.hid (fun i hi => by omega)⟩
    case round =>
      obtain ⟨kk, hkk, rfl, hBr, hsame⟩ := hrel
      by_cases hlt : kk < n1
      · have hltz : (kk : Int) < (n1 : Int) := by omega
        obtain ⟨b1, o1, rfl, hb1, r1⟩ := (T1.out.bel hBr).row (by omega)
        obtain ⟨b2, o2, rfl, hb2, r2⟩ := (T2.out.bel hBr).row (by omega)
        obtain ⟨x, hx⟩ : ∃ x, d1[kk]? = some x := ⟨_, List.getElem?_eq_getElem (by have := hl1.out; omega)⟩
        obtain ⟨y, hy⟩ : ∃ y, d2[kk]? = some y := ⟨_, List.getElem?_eq_getElem (by have := hl2.out; omega)⟩
        have x0 := r1 kk x hx
        have y0 := r2 kk y hy
        replace hx := Lib.hid hx
        replace hy := Lib.hid hy
        clear r1 r2
        by_cases hxy : x = y
        · subst hxy
          go_wp2_with fail
          go_big_quiet (fail)
          go_wp2_with fail
          go_roundw
          case rel =>
            refine ⟨kk + 1, by omega, by go_num, bDrew hBr nq, Lib.hid (fun i hi => ?_)⟩
            by_cases e : i = kk
            · subst e; rw [hx.out, hy.out]
            · exact hsame.out i (by omega)
          case measure => simp [intOf]; omega
        · have hd : RowKit.Hid (decide (d1 = d2) = false) := Lib.hid (decide_eq_false (fun q => hxy (by have h1 := hx.out; have h2 := hy.out; rw [q, h2] at h1; injection h1 with h1; exact h1.symm)))
          go_wp2_with fail
          go_big_quiet (fail)
          go_wp2_with fail
          refine bodyPost_ret (v := .bool false) (by simp [results, Try.results8, go_sem]) rfl ⟨by rw [hd.out], bDrew hBr nq⟩
      · obtain rfl : kk = n1 := by omega
        have hltz : ¬ (kk : Int) < (kk : Int) := by omega
        have hd : RowKit.Hid (decide (d1 = d2) = true) := Lib.hid (decide_eq_true (row_end hl1.out hl2.out hsame.out))
        go_wp2_with fail
        refine bodyPost_ret (v := .bool true) (by simp [results, Try.results8, go_sem]) rfl ⟨by rw [hd.out], hBr⟩
  · have hnz : ¬ (n1 : Int) = (n2 : Int) := by omega
    have hd : RowKit.Hid (decide (d1 = d2) = false) := Lib.hid (decide_eq_false (fun q => hn (by rw [← hl1, ← hl2, q])))
    clear hn hl1 hl2
    go_enter Try.func8, Try.ntmps8
    go_wp2_with fail
    refine bodyPost_ret (v := .bool false) (by simp [results, Try.results8, go_sem]) rfl ⟨by rw [hd.out], Below.refl _ _⟩
set_option maxRecDepth 100000 in
set_option maxHeartbeats 8000000 in
theorem wakes26_c (w : World) : Calls Try.prog 7 #[] w fun e w' => e = .returned (.bool true) ∧ Below w.heap.size w w' := by
  go_enter Try.func7, Try.ntmps7
  obtain ⟨I0, Q0, B0⟩ := lit3_ok w [1, 1] [10, 10] [10, 10] 3 22 (by decide) (by decide) (by decide)
  have hr := frun_c _ _ _ _ _ _ 2 _ _ _ _ _ _ _ I0 Q0 (fun i hi => by rcases (show i = 0 ∨ i = 1 by omega) with rfl | rfl <;> decide)
  rw [run_one] at hr
  have hB0 := Lib.hid B0
  replace hr := Lib.hid hr
  clear I0 Q0 B0
  go_wp2_with fail
  refine hr.out.mono ?_
  rintro e w1 ⟨a1, n1, c1, rfl, hn1, hO1, hB1⟩
  have hB1' := Lib.hid (hB0.out.trans (hB1.mono hB0.out.size))
  have R1 := Lib.hid (hO1.rd hn1 (by decide))
  clear hr hO1 hn1 hB1 hB0
  have ha := (Below.refl w1.heap.size w1).alloc (Nat.le_refl _) (.cells (zC [0, 1, 0, 1]).toArray 3)
  have hw := row_c (w1.alloc (.cells (zC [0, 1, 0, 1]).toArray 3)) _ (some ⟨w1.heap.size, 0, none⟩) _ c1 4 4 [0, 1, 0, 1] [0, 1, 0, 1] (R1.out.bel ha) (iat_blk (blkN_new w1 (zC [0, 1, 0, 1]) 3) (by rfl) (Nat.le_refl _) (by decide)).rd
  rw [decide_eq_true rfl] at hw
  have hB2 := Lib.hid (hB1'.out.alloc hB1'.out.size (.cells (zC [0, 1, 0, 1]).toArray 3))
  replace hw := Lib.hid hw
  clear ha R1
  go_wp2_with fail
  refine hw.out.mono ?_
  rintro e w2 ⟨rfl, hb⟩
  have hB2' := Lib.hid (hB2.out.trans (hb.mono hB2.out.size))
  clear hw hb
  obtain ⟨I0, Q0, B0⟩ := lit3_ok w2 [3, 1] [10, 10, 10] [10, 10] 3 22 (by decide) (by decide) (by decide)
  have hr := frun_c _ _ _ _ _ _ 2 _ _ _ _ _ _ _ I0 Q0 (fun i hi => by rcases (show i = 0 ∨ i = 1 by omega) with rfl | rfl <;> decide)
  rw [run_two] at hr
  have hB0 := Lib.hid (hB2'.out.trans (B0.mono hB2'.out.size))
  replace hr := Lib.hid hr
  clear I0 Q0 B0
  go_wp2_with fail
  refine hr.out.mono ?_
  rintro e w3 ⟨a3, n3, c3, rfl, hn3, hO3, hB3⟩
  have hB3' := Lib.hid (hB0.out.trans (hB3.mono hB0.out.size))
  have R3 := Lib.hid (hO3.rd hn3 (by decide))
  clear hr hO3 hn3 hB3 hB0
  have ha := (Below.refl w3.heap.size w3).alloc (Nat.le_refl _) (.cells (zC [0, 1, 0, 0, 1]).toArray 3)
  have hw := row_c (w3.alloc (.cells (zC [0, 1, 0, 0, 1]).toArray 3)) _ (some ⟨w3.heap.size, 0, none⟩) _ c3 5 5 [0, 1, 0, 0, 1] [0, 1, 0, 0, 1] (R3.out.bel ha) (iat_blk (blkN_new w3 (zC [0, 1, 0, 0, 1]) 3) (by rfl) (Nat.le_refl _) (by decide)).rd
  rw [decide_eq_true rfl] at hw
  have hB4 := Lib.hid (hB3'.out.alloc hB3'.out.size (.cells (zC [0, 1, 0, 0, 1]).toArray 3))
  replace hw := Lib.hid hw
  clear ha R3
  go_wp2_with fail
  refine hw.out.mono ?_
  rintro e w4 ⟨rfl, hb⟩
  have hB4' := Lib.hid (hB4.out.trans (hb.mono hB4.out.size))
  clear hw hb
  have ha := (Below.refl w4.heap.size w4).alloc (Nat.le_refl _) (.cells (zC [1]).toArray 3)
  have hr := frun_c (w4.alloc (.cells (zC [1]).toArray 3)) (some ⟨w4.heap.size, 0, none⟩) none 1 1 0 0 0 0 [1] (fun _ => none) (fun _ => 0) (fun _ => 0) (qf []) (iat_blk (blkN_new w4 (zC [1]) 3) (by rfl) (Nat.le_refl _) (by decide)) ⟨fun h => absurd h (by decide), fun h => absurd h (by decide), fun i hi => absurd hi (by omega), fun i hi => absurd hi (by omega)⟩ (fun i hi => absurd hi (by omega))
  rw [run_none] at hr
  have hB0 := Lib.hid (hB4'.out.alloc hB4'.out.size (.cells (zC [1]).toArray 3))
  replace hr := Lib.hid hr
  clear ha
  go_wp2_with fail
  refine hr.out.mono ?_
  rintro e w5 ⟨a5, n5, c5, rfl, hn5, hO5, hB5⟩
  obtain rfl : n5 = 0 := hn5
  have hB5' := Lib.hid (hB0.out.trans (hB5.mono hB0.out.size))
  clear hr hO5 hB5 hB0
  go_wp2_with fail
  exact bodyPost_ret (v := .bool true) (by simp [results, Try.results7, go_sem]) rfl ⟨rfl, hB5'.out⟩
end Go.Proofs.Ytbbcongfaoopcaa
namespace Go.Proofs.Ytbbcongfaoopcaa
open Go.ChangeShapes Go.WideShapes Go.ChangeAt Go.RowKit Go.Maps
set_option linter.unusedVariables false
set_option linter.unusedSimpArgs false
open BigFrame Pk Fq Vr Fa

namespace Fa
open Classical in
noncomputable def errNew (dw : List Int) : Int := if newOk dw then 0 else 2
end Fa
/-- New made, or refused, whatever it is given. -/
theorem fnew_c (w : World) (aw : Option Addr) (nw cw : Nat) (dw : List Int) (Wt : IAt w aw nw cw dw) :
    (newOk dw ∧ Calls Try.prog 11 #[.slice aw nw cw] w (NewF nw (gd dw) w)) ∨ (¬ newOk dw ∧ Calls Try.prog 11 #[.slice aw nw cw] w (NoNew w)) := by
  have hlen := Wt.len
  by_cases hlw : dw.length < 1 ∨ 8 < dw.length
  · exact .inr ⟨fun q => by have := q.1; have := q.2.1; omega, fnew_len w aw nw cw (by omega)⟩
  · obtain ⟨b, off, rfl, hb, hc⟩ := Wt.row (by omega)
    have hc2 : ∀ i, i < nw → w.cell? ⟨b, off + i, none⟩ = some (.int .i64 (gd dw i)) := fun i hi => hc i _ (gd_at (by omega))
    by_cases hgood : ∀ i, i < nw → 1 ≤ gd dw i ∧ gd dw i ≤ 16
    · exact .inl ⟨⟨by omega, by omega, fun x hx => by
        obtain ⟨i, hi, rfl⟩ := List.getElem_of_mem hx
        have := hgood i (by omega)
        have e := gd_at hi
        rw [List.getElem?_eq_getElem hi] at e
        injection e with e
        rw [e]; exact this⟩, fnew_ok w b off nw cw (gd dw) (by omega) (by omega) hb hc2 hgood⟩
    · obtain ⟨m, hm, hbad, hmin⟩ := leastBad (fun i => 1 ≤ gd dw i ∧ gd dw i ≤ 16) nw hgood
      exact .inr ⟨fun q => hgood (fun i hi => q.2.2 _ (gd_mem (by omega))), fnew_bad w b off nw cw (gd dw) (by omega) (by omega) hb hc2 m hm hmin (by omega)⟩

structure XT_Lint where
  a : Option Addr
  n : Nat
  c : Nat
  d : List Int
def Is_Lint (w : World) (v : Value) (x : XT_Lint) : Prop := v = .slice x.a x.n x.c ∧ IAt w x.a x.n x.c x.d
structure XT_LLint where
  a : Option Addr
  b : Nat
  off : Nat
  n : Nat
  c : Nat
  A : Nat → Option Addr
  L : Nat → Nat
  C : Nat → Nat
  Q : Nat → List Int
def Is_LLint (w : World) (v : Value) (x : XT_LLint) : Prop := v = .slice x.a x.n x.c ∧ x.n ≤ x.c ∧ x.c ≤ 9223372036854775807 ∧ QsAt w x.a x.b x.off x.n x.A x.L x.C x.Q
section
variable {H : Type} {enc : TypeId × Value → H} {w : World}
set_option maxRecDepth 100000 in
theorem open_ints {n : Nat} {u : Value} {z : DataW H × List MemPlace} (h : DataW.trod enc Try.prog w 0 (fun _ => true) true n 22 [u] = some z) :
    ∃ a l c d, u = .slice a l c ∧ IAt w a l c d := by
  have k1 : Try.prog.cellsOf 3 = 1 := by kernel_rfl
  obtain ⟨a, len, cap, rfl, hl, hm, hrow⟩ := open_rowsN Try.underlying22 h (by rw [k1]; omega)
  rw [k1] at hrow
  unfold maxLen at hm
  by_cases hp : 0 < len
  · obtain ⟨b, off, V, n, rfl, hb, hV⟩ := hrow hp
    refine ⟨_, len, cap, (List.range len).map (fun i => RowKit.intOf ((V i).getD 0 undef)), rfl, by simp, hl, hm, fun _ => ⟨b, off, rfl, hb, fun i x hx => ?_⟩⟩
    have hi : i < len := by have := (List.getElem?_eq_some_iff.1 hx).1; simpa using this
    simp [hi] at hx
    subst hx
    obtain ⟨q1, q2, z, q3⟩ := hV i (by omega)
    obtain ⟨x, hx⟩ : ∃ x, V i = [x] := List.length_eq_one_iff.1 q1
    rw [hx] at q2 q3
    obtain ⟨e4, f4⟩ := trod_int' Try.underlying3 q3
    have hc := q2 0 x rfl
    have hg : RowKit.intOf ((V i)[0]?.getD undef) = RowKit.intOf x := by rw [hx]; rfl
    rw [hg]
    rw [e4] at hc
    simpa using hc
  · obtain rfl : len = 0 := by omega
    exact ⟨a, 0, cap, [], rfl, IAt.nil _ _ _ hm⟩
set_option maxRecDepth 100000 in
theorem open_Lint {r : Reach} {b0 : Nat} {v : Value} {d : DataW H} {p : List MemPlace} (hv : Value.okWide Try.prog w r b0 22 v) (h : DataW.Trod enc Try.prog w 0 (fun _ => true) true 22 v d p) : ∃ x, Is_Lint w v x := by
  obtain ⟨a0, len0, cap0, rfl⟩ := okWide_slice Try.underlying22 hv
  obtain ⟨fuel, hf⟩ := h
  obtain ⟨a, len, cap, l, he, h1⟩ := open_ints (u := .slice a0 len0 cap0) hf
  cases he
  exact ⟨⟨a0, len0, cap0, l⟩, rfl, h1⟩
set_option maxRecDepth 100000 in
theorem open_LLint {r : Reach} {b0 : Nat} {v : Value} {d : DataW H} {p : List MemPlace} (hv : Value.okWide Try.prog w r b0 23 v) (h : DataW.Trod enc Try.prog w 0 (fun _ => true) true 23 v d p) : ∃ x, Is_LLint w v x := by
  obtain ⟨a0, len0, cap0, rfl⟩ := okWide_slice Try.underlying23 hv
  obtain ⟨fuel, hf⟩ := h
  have k1 : Try.prog.cellsOf 22 = 1 := by kernel_rfl
  obtain ⟨a, len, cap, he, hl, hm, hrow⟩ := open_rowsN (u := .slice a0 len0 cap0) Try.underlying23 hf (by rw [k1]; omega)
  cases he
  rw [k1] at hrow
  unfold maxLen at hm
  by_cases hp : 0 < len0
  · obtain ⟨b, off, V, n, rfl, hb, hV⟩ := hrow hp
    have hE : ∀ i, ∃ q : Option Addr × Nat × Nat × List Int, i < cap0 → w.cell? ⟨b, off + i, none⟩ = some (.slice q.1 q.2.1 q.2.2.1) ∧ IAt w q.1 q.2.1 q.2.2.1 q.2.2.2 := fun i => by
      by_cases hi : i < cap0
      · obtain ⟨q1, q2, z, q3⟩ := hV i hi
        obtain ⟨x, hx⟩ : ∃ x, V i = [x] := List.length_eq_one_iff.1 q1
        rw [hx] at q2 q3
        obtain ⟨a, l, c, d, rfl, hI⟩ := open_ints q3
        exact ⟨(a, l, c, d), fun _ => ⟨by have := q2 0 _ rfl; simpa using this, hI⟩⟩
      · exact ⟨(none, 0, 0, []), fun h => absurd h hi⟩
    obtain ⟨e, he⟩ := Classical.axiomOfChoice hE
    exact ⟨⟨some ⟨b, off, none⟩, b, off, len0, cap0, fun i => (e i).1, fun i => (e i).2.1, fun i => (e i).2.2.1, fun i => (e i).2.2.2⟩, rfl, hl, hm, fun _ => rfl, fun _ => hb, fun i hi => (he i (Nat.lt_of_lt_of_le hi hl)).1, fun i hi => (he i (Nat.lt_of_lt_of_le hi hl)).2⟩
  · obtain rfl : len0 = 0 := by omega
    exact ⟨⟨a0, 0, 0, 0, cap0, fun _ => none, fun _ => 0, fun _ => 0, fun _ => []⟩, rfl, hl, hm, fun h => absurd h (Nat.lt_irrefl _), fun h => absurd h (Nat.lt_irrefl _), fun i hi => absurd hi (Nat.not_lt_zero _), fun i hi => absurd hi (Nat.not_lt_zero _)⟩
end
end Go.Proofs.Ytbbcongfaoopcaa
namespace Go.Proofs.Ytbbcongfaoopcaa
open Go.ChangeShapes Go.WideShapes Go.ChangeAt Go.RowKit Go.Maps
set_option linter.unusedVariables false
set_option linter.unusedSimpArgs false
open BigFrame Pk Fq Vr Fa

namespace Fb
def iC (W : Nat → Int) (n : Nat) : List Value := (List.range n).map fun i => .int .i64 (W i)
theorem iC_succ (W : Nat → Int) (n : Nat) : iC W (n + 1) = iC W n ++ [.int .i64 (W n)] := by simp [iC, List.range_succ]
theorem iC_len (W : Nat → Int) (n : Nat) : (iC W n).length = n := by simp [iC]
theorem iC_at (W : Nat → Int) (n i : Nat) (h : i < n) : (iC W n)[i]? = some (.int .i64 (W i)) := by simp [iC, h]
theorem iC_set (W : Nat → Int) (k : Nat) (x : Int) (n : Nat) : (iC W n).set k (.int .i64 x) = iC (up W k x) n := by
  apply List.ext_getElem?
  intro i
  rw [List.getElem?_set]
  by_cases e : k = i
  · subst e
    by_cases h : k < n
    · rw [if_pos rfl, if_pos (by rw [iC_len]; exact h), iC_at _ _ _ h, up_at]
    · rw [if_pos rfl, if_neg (by rw [iC_len]; exact h)]
      rw [List.getElem?_eq_none (by rw [iC_len]; omega)]
  · rw [if_neg e]
    by_cases h : i < n
    · rw [iC_at _ _ _ h, iC_at _ _ _ h]; simp only [up]; rw [if_neg (fun q => e q.symm)]
    · rw [List.getElem?_eq_none (by rw [iC_len]; omega), List.getElem?_eq_none (by rw [iC_len]; omega)]
def OwnI (w : World) (B : Nat) (v : Value) (R : Nat → Int) (n : Nat) : Prop := w.ownsRow B 3 1 v n (iC R n)
theorem OwnI.lt {w : World} {B : Nat} {v : Value} {R : Nat → Int} {n : Nat} (h : OwnI w B v R n) {q : Nat} (hq : v.ownBlock = some q) : B ≤ q ∧ q < w.heap.size := by
  unfold OwnI at h
  exact h.lt q hq
theorem OwnI.kf {w w' : World} {B : Nat} {v : Value} {R : Nat → Int} {n : Nat} {l : List Nat} (h : OwnI w B v R n) (k : KF l w w') (hl : ∀ q, v.ownBlock = some q → q ∉ l) : OwnI w' B v R n := by
  refine ⟨h.1, ?_⟩
  rcases h.2 with hh | ⟨g, cap, cur, h1, h2, h3, h4⟩
  · exact .inl hh
  · exact .inr ⟨g, cap, cur, h1, h2, (k.k g (Array.getElem?_eq_some_iff.1 h3).1 (hl g (by rw [h1]; rfl))).trans h3, h4⟩
theorem OwnI.nil (w : World) (B : Nat) (R : Nat → Int) : OwnI w B (.slice none 0 0) R 0 := ⟨rfl, .inl ⟨rfl, rfl⟩⟩
theorem OwnI.blk {w : World} {B n c : Nat} {a : Option Addr} {R : Nat → Int} (h : OwnI w B (.slice a n c) R n) (hn : 0 < n) : ∃ g, a = some ⟨g, 0, none⟩ ∧ B ≤ g ∧ Blk w g (iC R n) := by
  unfold OwnI at h
  obtain ⟨g, cap, e, hb, hl⟩ := h.form hn
  cases e
  exact ⟨g, rfl, hb, fun i x hx => by
    have hi : i < (iC R n).length := (List.getElem?_eq_some_iff.1 hx).1
    rw [h.cellAt i (by rw [← h.1]; exact hi)]; exact hx, fun o => h.frozenAt o, hl⟩
theorem wpList_appI {w : World} {ops : Array Oper} {rest : List Oper} {o : Oper} {a : Act} {Q : Exit → Act → World → Prop} (hgd : o.guard = none) (s x : Operand)
    (ho : o.op = .call { callee := .builtin .append, args := #[s, x], argTypes := #[22, 22] }) (B : Nat) (v : Value) (R : Nat → Int) (n : Nat) (hs : a.eval s = v) (hown : OwnI w B v R n) (hB : B ≤ w.heap.size)
    {q c : Nat} (hx : a.eval x = .slice (some ⟨q, 0, none⟩) 1 c) (hk : Blk w q [.int .i64 (R n)]) (hl : n ≤ 1000000)
    (h : ∀ (a' : Option Addr) (n' c' : Nat) w', OwnI w' B (.slice a' n' c') R (n + 1) → n' = n + 1 → w'.heap.size ≥ w.heap.size → w.grownBy w' v.ownBlock → ((Value.slice a' n' c').ownBlock = v.ownBlock ∨ (Value.slice a' n' c').ownBlock = some w.heap.size) → wpList Try.prog ops Q rest (a.put o.dst (.slice a' n' c')) w') : wpList Try.prog ops Q (o :: rest) a w := by
  obtain ⟨i0, hi0, hz0, hz1, hz2⟩ := info_parts info_int
  refine wpList_append_own_at w hgd s x 22 ho B 3 i0 _ 1 8 Try.underlying22 hi0 hz0 hz1 hz2 rfl (by omega) v n (iC R n) hs hown ⟨q, 0, none⟩ 1 c [.int .i64 (R n)] hx rfl (fun j u hj => ?_) (by intro u hu; simp at hu; rcases hu with rfl; rfl) (by unfold maxLen; omega) (by omega) hB (fun v' w' h1 h2 _ h4 => ?_)
  · have := hk.c j u hj
    rw [Addr.add_lit, Nat.zero_add]
    exact this
  · have h3 : OwnI w' B v' R (n + 1) := by
      unfold OwnI
      rw [iC_succ]
      exact h1
    rcases h3.2 with ⟨e, e2⟩ | ⟨g, cap, cur, e, _⟩
    · simp at e2
    · subst e
      exact h _ _ _ w' h3 rfl h2.size h2 h4
theorem wp_appI {w : World} {o : Oper} {a : Act} {K : Act → World → Prop} {Q : Exit → Act → World → Prop} (s x : Operand)
    (ho : o.op = .call { callee := .builtin .append, args := #[s, x], argTypes := #[22, 22] }) (B : Nat) (v : Value) (R : Nat → Int) (n : Nat) (hs : a.eval s = v) (hown : OwnI w B v R n) (hB : B ≤ w.heap.size)
    {q c : Nat} (hx : a.eval x = .slice (some ⟨q, 0, none⟩) 1 c) (hk : Blk w q [.int .i64 (R n)]) (hl : n ≤ 1000000)
    (h : ∀ (a' : Option Addr) (n' c' : Nat) w', OwnI w' B (.slice a' n' c') R (n + 1) → n' = n + 1 → w'.heap.size ≥ w.heap.size → w.grownBy w' v.ownBlock → ((Value.slice a' n' c').ownBlock = v.ownBlock ∨ (Value.slice a' n' c').ownBlock = some w.heap.size) → K (a.put o.dst (.slice a' n' c')) w') : o.wp Try.prog a w K Q := by
  obtain ⟨i0, hi0, hz0, hz1, hz2⟩ := info_parts info_int
  refine wp_append_lies w s x 22 ho B 3 i0 _ 1 8 Try.underlying22 hi0 hz0 hz1 hz2 rfl (by omega) v n (iC R n) hs hown ⟨q, 0, none⟩ 1 c [.int .i64 (R n)] hx rfl (fun j u hj => ?_) (by intro u hu; simp at hu; rcases hu with rfl; rfl) (by omega) (by unfold maxLen; omega) (by omega) hB _ rfl (fun g cap w' h1 h2 h3 h4 => ?_)
  · have := hk.c j u hj
    rw [Addr.add_lit, Nat.zero_add]
    exact this
  · refine h (some ⟨g, 0, none⟩) (n + 1) cap w' ?_ rfl h2.size h2 ?_
    · unfold OwnI
      rw [iC_succ]
      exact h1
    · rcases h3 with e | e
      · exact .inl e.symm
      · subst e; exact .inr rfl
theorem grownK {u w5 : World} {b : Option Nat} (g : u.grownBy w5 b) : KF b.toList u w5 := KF.grown2 (KF.refl _ u) g (fun q e => by rw [e]; simp)
def tI (t : Nat → Nat) : Nat → Int := fun i => ((t i : Nat) : Int)
theorem tI_up (t : Nat → Nat) (k : Nat) : up (tI t) k (((t k : Nat) : Int) + 1) = tI (upn t k (t k + 1)) := funext fun i => by
  unfold up tI upn
  by_cases e : i = k
  · rw [if_pos e, if_pos e]; push_cast; rfl
  · rw [if_neg e, if_neg e]
theorem madeInts (n j : Nat) (h : j < n * 1) : (madeCells (Value.int .i64 0).cells (n * 1)).toList[j]? = some (.int .i64 0) := by
  have e : (Value.int .i64 0).cells = #[.int .i64 0] := by rfl
  have h2 : j % 1 = 0 := by omega
  rw [e]
  have h3 : j < n := by omega
  simp [madeCells, h3, h2, show j % 1 = 0 from h2]
end Fb
end Go.Proofs.Ytbbcongfaoopcaa
namespace Go.Proofs.Ytbbcongfaoopcaa
open Go.ChangeShapes Go.WideShapes Go.ChangeAt Go.RowKit Go.Maps
set_option linter.unusedVariables false
set_option linter.unusedSimpArgs false
open BigFrame Pk Fq Vr Fa

namespace Fb
/-- At least nothing. -/
def pos (x : Int) : Int := if 0 < x then x else 0
theorem pos_ge (x : Int) : 0 ≤ pos x ∧ x ≤ pos x := by unfold pos; split <;> omega
theorem pos_mono {x y : Int} (h : x ≤ y) : pos x ≤ pos y := by unfold pos; split <;> split <;> omega
theorem pos_of {x : Int} (h : 0 ≤ x) : pos x = x := by unfold pos; split <;> omega
theorem pos_no {x : Int} (h : x ≤ 0) : pos x = 0 := by unfold pos; split <;> omega
theorem pos_max (X a b : Int) : pos (X - max a b) ≤ pos (X - a) ∧ pos (X - max a b) ≤ pos (X - b) := ⟨pos_mono (by omega), pos_mono (by omega)⟩
/-- Work that a flow may still ask for up to a time. -/
def cw (V z : Int) (d : Bool) (s f X : Int) : Int :=
  if 0 < z then (if d then pos (X - f) else if f ≤ X then pos (X - s) else pos (X - max s V)) else pos (X - max f V)
theorem cw_ge (V z : Int) (d : Bool) (s f X : Int) : 0 ≤ cw V z d s f X := by
  unfold cw
  have h1 := pos_ge (X - f)
  have h2 := pos_ge (X - s)
  have h3 := pos_ge (X - max s V)
  have h4 := pos_ge (X - max f V)
  split
  · split
    · exact h1.1
    · split
      · exact h2.1
      · exact h3.1
  · exact h4.1
/-- A later time leaves no more. -/
theorem cw_up {V V2 z : Int} {d : Bool} {s f X : Int} (h : V ≤ V2) : cw V2 z d s f X ≤ cw V z d s f X := by
  unfold cw
  have h3 : pos (X - max s V2) ≤ pos (X - max s V) := pos_mono (by omega)
  have h4 : pos (X - max f V2) ≤ pos (X - max f V) := pos_mono (by omega)
  split
  · split
    · exact Int.le_refl _
    · split
      · exact Int.le_refl _
      · exact h3
  · exact h4
/-- What is told of a head leaves no more. -/
theorem cw_told {V z n c s f : Int} {d : Bool} {X : Int} (hz : 0 ≤ z) (hn : 0 ≤ n) (hd : d = true → 0 < z) (hsf : s ≤ f) (hc : 0 ≤ c) :
    cw V n false (hrS V s f z n c d) (hrF V s f z n c d) X ≤ cw V z d s f X := by
  have e1 : ∀ a b : Int, pos (X - max (max a b) b) = pos (X - max a b) := fun a b => by congr 1; omega
  by_cases hn0 : n = 0
  · subst hn0
    by_cases hz0 : 0 < z
    · cases d with
      | true =>
        have h1 : hrF V s f z 0 c true = f := by simp [hrF, hrF1]
        simp only [cw, h1, hz0, if_true, if_neg (show ¬ (0 : Int) < 0 by omega)]
        exact (pos_max X f V).1
      | false =>
        have hz1 : ¬ z = 0 := by omega
        have h1 : hrF V s f z 0 c false = s := by simp [hrF, hrF1, hz0, hz1]
        simp only [cw, h1, hz0, if_true, if_neg (show ¬ (0 : Int) < 0 by omega), Bool.false_eq_true, if_false]
        split
        · exact (pos_max X s V).1
        · exact Int.le_refl _
    · have hdd : d = false := by cases d with
        | true => exact absurd (hd rfl) hz0
        | false => rfl
      subst hdd
      have h1 : hrF V s f z 0 c false = f := by simp [hrF, hrF1, hz0]
      simp only [cw, h1, hz0, if_false, if_neg (show ¬ (0 : Int) < 0 by omega)]
      exact Int.le_refl _
  · have hnp : 0 < n := by omega
    cases d with
    | true =>
      have hz0 := hd rfl
      have h1 : hrS V s f z n c true = f := by simp [hrS, hrF1, hn0]
      have h2 : hrF V s f z n c true = f + c := by simp [hrF, hrF1, hn0]
      simp only [cw, h1, h2, hz0, hnp, if_true, Bool.false_eq_true, if_false]
      split
      · exact Int.le_refl _
      · exact (pos_max X f V).1
    | false =>
      by_cases hzn : z = n
      · subst hzn
        have h1 : hrS V s f z z c false = s := by simp [hrS, hrF1, hn0]
        have h2 : hrF V s f z z c false = f := by simp [hrF, hrF1, hn0]
        rw [h1, h2]
        exact Int.le_refl _
      · by_cases hz0 : 0 < z
        · have h1 : hrS V s f z n c false = max s V := by simp [hrS, hrF1, hn0, hzn, hz0]
          have h2 : hrF V s f z n c false = max s V + c := by simp [hrF, hrF1, hn0, hzn, hz0]
          simp only [cw, h1, h2, hz0, hnp, if_true, Bool.false_eq_true, if_false, e1]
          have := (pos_max X s V).1
          split <;> split <;> first | exact this | exact Int.le_refl _
        · have h1 : hrS V s f z n c false = max f V := by simp [hrS, hrF1, hn0, hzn, hz0]
          have h2 : hrF V s f z n c false = max f V + c := by simp [hrF, hrF1, hn0, hzn, hz0]
          simp only [cw, h1, h2, hz0, hnp, if_true, Bool.false_eq_true, if_false, e1]
          split <;> exact Int.le_refl _
/-- Beyond all that is asked for, work is in time. -/
theorem cw_out {V z : Int} {d : Bool} {s f X : Int} (h : ¬ (0 < z ∧ f ≤ X)) : cw V z d s f X ≤ pos (X - V) := by
  unfold cw
  by_cases hz : 0 < z
  · have hf : ¬ f ≤ X := fun q => h ⟨hz, q⟩
    rw [if_pos hz]
    split
    · rw [pos_no (by omega)]; exact (pos_ge _).1
    · first | exact (pos_max X s V).2 | (rw [if_neg hf]; exact (pos_max X s V).2)
  · rw [if_neg hz]; exact (pos_max X f V).2
theorem sumW_le {a b : Nat → Int} : ∀ n, (∀ i, i < n → a i ≤ b i) → sumW a n ≤ sumW b n
  | 0, _ => Int.le_refl _
  | n + 1, h => by
    have := sumW_le n (fun i hi => h i (by omega))
    have := h n (by omega)
    simp only [sumW]
    omega
theorem sumW_nn {a : Nat → Int} (n : Nat) (h : ∀ i, i < n → 0 ≤ a i) : 0 ≤ sumW a n := by
  have := sumW_le (a := fun _ => 0) n h
  have e : ∀ m, sumW (fun _ => 0) m = 0 := fun m => by
    induction m with
    | zero => rfl
    | succ m ih => simp only [sumW, ih]; rfl
  rw [e] at this
  exact this
theorem sumW_one {a : Nat → Int} {k : Nat} : ∀ n, k < n → (∀ i, i < n → 0 ≤ a i) → a k ≤ sumW a n
  | 0, h, _ => by omega
  | n + 1, h, hp => by
    have h1 := hp n (by omega)
    simp only [sumW]
    by_cases e : k = n
    · subst e
      have := sumW_nn k (fun i hi => hp i (by omega))
      omega
    · have := sumW_one (a := a) (k := k) n (by omega) (fun i hi => hp i (by omega))
      omega
theorem sumW_sub {a b : Nat → Int} {k : Nat} {e : Int} (hk : a k + e ≤ b k) : ∀ n, k < n → (∀ i, i < n → i ≠ k → a i ≤ b i) → sumW a n + e ≤ sumW b n
  | 0, h, _ => by omega
  | n + 1, h, hp => by
    simp only [sumW]
    by_cases q : k = n
    · subst q
      have := sumW_le k (fun i hi => hp i (by omega) (by omega))
      omega
    · have h1 := sumW_sub hk n (by omega) (fun i hi => hp i (by omega))
      have h2 := hp n (by omega) (fun e => q e.symm)
      omega
theorem sumW_mul (w : Nat → Int) (y : Int) : ∀ n, sumW (fun i => w i * y) n = sumW w n * y
  | 0 => by simp [sumW]
  | n + 1 => by simp only [sumW]; rw [sumW_mul w y n, Int.add_mul]
/-- What the bound stands on: flow by flow the tags fit the sizes; the flow told of is not far ahead; work asked for is in time. -/
structure BI (N : Nat) (ALL SC most own : Int) (fl : Nat) (W : Nat → Int) (x : Sched) : Prop where
  z : ∀ i, i < N → 0 ≤ x.Z i ∧ x.Z i ≤ most
  zo : x.Z fl ≤ own
  d : ∀ i, i < N → x.D i = true → 0 < x.Z i
  sf : ∀ i, i < N → x.S i ≤ x.F i
  tag : ∀ i, i < N → 0 < x.Z i → x.D i = false → W i * (x.F i - x.S i) = x.Z i * ALL * SC
  a : W fl * ((if 0 < x.Z fl ∧ x.D fl = false then x.S fl else x.F fl) - x.V) ≤ own * (ALL - W fl) * SC
  b : ∀ X, (∃ i, i < N ∧ 0 < x.Z i ∧ x.F i ≤ X) → ALL * x.V + sumW (fun i => W i * cw x.V (x.Z i) (x.D i) (x.S i) (x.F i) X) N ≤ ALL * X + ALL * SC * most
/-- All the work asked for behind a time is at most what there is till then. -/
theorem sum_in {N : Nat} {W c : Nat → Int} {ALL y : Int} (hW : ∀ i, i < N → 0 ≤ W i) (hA : sumW W N = ALL) (h : ∀ i, i < N → c i ≤ y) : sumW (fun i => W i * c i) N ≤ ALL * y := by
  rw [← hA, ← sumW_mul]
  exact sumW_le N (fun i hi => Int.mul_le_mul_of_nonneg_left (h i hi) (hW i hi))
end Fb
end Go.Proofs.Ytbbcongfaoopcaa
namespace Go.Proofs.Ytbbcongfaoopcaa
open Go.ChangeShapes Go.WideShapes Go.ChangeAt Go.RowKit Go.Maps
set_option linter.unusedVariables false
set_option linter.unusedSimpArgs false
open BigFrame Pk Fq Vr Fa Fb

namespace Fb
theorem cost_mul {n w all : Int} (h1 : 1 ≤ n) (h2 : n ≤ 1500) (h3 : 1 ≤ w) (h4 : w ≤ 16) (h5 : w ≤ all) (h6 : all ≤ 128) : w * costI n w all = n * all * 720720 := by
  rw [costI_ok h1 h2 h3 h4 h5 h6]
  have hq : w * (720720 / w) = 720720 := by
    have hw : w = 1 ∨ w = 2 ∨ w = 3 ∨ w = 4 ∨ w = 5 ∨ w = 6 ∨ w = 7 ∨ w = 8 ∨ w = 9 ∨ w = 10 ∨ w = 11 ∨ w = 12 ∨ w = 13 ∨ w = 14 ∨ w = 15 ∨ w = 16 := by omega
    rcases hw with rfl | rfl | rfl | rfl | rfl | rfl | rfl | rfl | rfl | rfl | rfl | rfl | rfl | rfl | rfl | rfl <;> decide
  calc w * (n * all * (720720 / w)) = n * all * (w * (720720 / w)) := by rw [Int.mul_left_comm]
    _ = n * all * 720720 := by rw [hq]
theorem hr_tag {V z n c s f : Int} {d : Bool} (hn : n ≠ 0) (hz : 0 ≤ z) (hd : d = true → 0 < z) : hrF V s f z n c d = hrS V s f z n c d + c ∨ (d = false ∧ 0 < z ∧ z = n ∧ hrS V s f z n c d = s ∧ hrF V s f z n c d = f) := by
  cases d with
  | true => left; simp [hrS, hrF, hn]
  | false =>
    by_cases hzn : z = n
    · right; subst hzn; exact ⟨rfl, by omega, rfl, by simp [hrS, hrF1, hn], by simp [hrF, hrF1, hn]⟩
    · left; simp [hrS, hrF, hn, hzn]
theorem hr_V {V z n c s f : Int} {d : Bool} (hn : n ≠ 0) (hc : 0 ≤ c) (hz0 : 0 ≤ z) : (0 < z ∧ f ≤ hrF V s f z n c d) ∨ V ≤ hrF V s f z n c d ∨ (d = true) := by
  cases d with
  | true => exact .inr (.inr rfl)
  | false =>
    by_cases hzn : z = n
    · subst hzn
      by_cases hz : 0 < z
      · left; exact ⟨hz, by simp [hrF, hrF1, hn]⟩
      · omega
    · right; left; simp only [hrF, hn, hzn, if_false, Bool.false_eq_true, ne_eq, not_false_eq_true, if_true]; omega
theorem hr_S {V z n c s f : Int} (hn : n ≠ 0) : hrF V s f z n c true = f + c := by simp [hrF, hrF1, hn]
/-- The start that a flow's next packet would have at least. -/
def nx (z : Int) (d : Bool) (s f : Int) : Int := if 0 < z ∧ d = false then s else f
theorem nx_told {V z n c s f : Int} {d : Bool} (hz : 0 ≤ z) (hn : 0 ≤ n) (hd : d = true → 0 < z) : nx n false (hrS V s f z n c d) (hrF V s f z n c d) ≤ max (nx z d s f) V := by
  unfold nx
  by_cases hn0 : n = 0
  · subst hn0
    rw [if_neg (by omega)]
    cases d with
    | true => simp [hrF, hrF1]; omega
    | false =>
      by_cases hz0 : 0 < z
      · have hz1 : ¬ z = 0 := by omega
        simp [hrF, hrF1, hz0, hz1]; omega
      · simp [hrF, hrF1, hz0]; omega
  · rw [if_pos ⟨by omega, rfl⟩]
    cases d with
    | true => simp [hrS, hrF1, hn0]; omega
    | false =>
      by_cases hzn : z = n
      · subst hzn
        have : 0 < z := by omega
        simp [hrS, hrF1, hn0, this]; omega
      · by_cases hz0 : 0 < z
        · simp [hrS, hrF1, hn0, hzn, hz0]
        · simp [hrS, hrF1, hn0, hzn, hz0]
/-- What is told of all heads keeps the bound. -/
theorem BI.told {N fl : Nat} {ALL most own M : Int} {W h : Nat → Int} {x : Sched} (B : BI N ALL 720720 most own fl W x) (H : Inv M ALL x.V N W x.Z x.D x.S x.F) (hA : sumW W N = ALL) (hf : fl < N)
    (hh : ∀ i, i < N → headBad (h i) = false) (hm : ∀ i, i < N → h i ≤ most) (ho : h fl ≤ own) (hm0 : 0 ≤ most) (ho0 : 0 ≤ own) :
    BI N ALL 720720 most own fl W (toldN N ALL x.V W x.Z x.D x.S x.F h) ∧ (∀ i, i < N → (toldN N ALL x.V W x.Z x.D x.S x.F h).D i = false) ∧ (∀ i, i < N → (toldN N ALL x.V W x.Z x.D x.S x.F h).Z i = h i) := by
  have eZ : ∀ i, i < N → (toldN N ALL x.V W x.Z x.D x.S x.F h).Z i = h i := fun i hi => mix_lt h x.Z hi
  have eD : ∀ i, i < N → (toldN N ALL x.V W x.Z x.D x.S x.F h).D i = false := fun i hi => mixb_lt nof x.D hi
  have eS : ∀ i, i < N → (toldN N ALL x.V W x.Z x.D x.S x.F h).S i = hrS x.V (x.S i) (x.F i) (x.Z i) (h i) (costI (h i) (W i) ALL) (x.D i) := fun i hi => mix_lt _ x.S hi
  have eF : ∀ i, i < N → (toldN N ALL x.V W x.Z x.D x.S x.F h).F i = hrF x.V (x.S i) (x.F i) (x.Z i) (h i) (costI (h i) (W i) ALL) (x.D i) := fun i hi => mix_lt _ x.F hi
  have eV : (toldN N ALL x.V W x.Z x.D x.S x.F h).V = x.V := rfl
  generalize toldN N ALL x.V W x.Z x.D x.S x.F h = y at eZ eD eS eF eV ⊢
  have hV := H.far.1
  have hW : ∀ i, i < N → 0 ≤ W i := fun i hi => by have := H.w i hi; omega
  have hcost : ∀ i, i < N → 0 ≤ costI (h i) (W i) ALL ∧ (h i = 0 ∨ 1 ≤ costI (h i) (W i) ALL) := fun i hi => by
    have h2 := headOk (hh i hi)
    have h3 := H.w i hi
    refine ⟨?_, ?_⟩
    · rcases costI_bd (h i) (W i) ALL with e | e <;> omega
    · by_cases e : h i = 0
      · exact .inl e
      · exact .inr (cost_pos (by omega) h2.2 h3.1 h3.2.1 h3.2.2 H.all).1
  have hbd : 0 ≤ own * (ALL - W fl) * 720720 := by
    have := (H.w fl hf).2.2
    exact Int.mul_nonneg (Int.mul_nonneg ho0 (by omega)) (by omega)
  refine ⟨⟨fun i hi => by rw [eZ i hi]; exact ⟨(headOk (hh i hi)).1, hm i hi⟩, by rw [eZ fl hf]; exact ho, fun i hi hd => (by rw [eD i hi] at hd; cases hd), fun i hi => ?_, fun i hi hz hd => ?_, ?_, fun X hX => ?_⟩, eD, eZ⟩
  · rw [eS i hi, eF i hi]
    have h1 := H.far.2.2 i hi
    exact (hr_bd h1.1 h1.2.1 (hcost i hi).2 hV).2
  · rw [eZ i hi] at hz ⊢
    rw [eS i hi, eF i hi]
    have h2 := headOk (hh i hi)
    have h3 := H.w i hi
    rcases hr_tag (V := x.V) (s := x.S i) (f := x.F i) (c := costI (h i) (W i) ALL) (show h i ≠ 0 by omega) (B.z i hi).1 (B.d i hi) with e | ⟨e1, e2, e3, e4, e5⟩
    · rw [e, show ∀ a b : Int, a + b - a = b from fun a b => by omega]
      exact cost_mul (by omega) h2.2 h3.1 h3.2.1 h3.2.2 H.all
    · rw [e4, e5, ← e3]
      exact B.tag i hi e2 e1
  · rw [eD fl hf, eZ fl hf, eS fl hf, eF fl hf, eV]
    have h1 := nx_told (V := x.V) (s := x.S fl) (f := x.F fl) (c := costI (h fl) (W fl) ALL) (B.z fl hf).1 (headOk (hh fl hf)).1 (B.d fl hf)
    have h2 := B.a
    unfold nx at h1
    generalize (if 0 < x.Z fl ∧ x.D fl = false then x.S fl else x.F fl) = T at h1 h2
    generalize (if 0 < h fl ∧ false = false then _ else _) = T' at h1 ⊢
    by_cases q : T ≤ x.V
    · have : W fl * (T' - x.V) ≤ 0 := by
        have := Int.mul_le_mul_of_nonneg_left (show T' - x.V ≤ 0 by omega) (hW fl hf)
        simpa using this
      omega
    · have := Int.mul_le_mul_of_nonneg_left (show T' - x.V ≤ T - x.V by omega) (hW fl hf)
      omega
  · obtain ⟨i, hi, hz, hfX⟩ := hX
    rw [eZ i hi] at hz
    rw [eF i hi] at hfX
    rw [eV]
    have hle : sumW (fun i => W i * cw x.V (y.Z i) (y.D i) (y.S i) (y.F i) X) N ≤ sumW (fun i => W i * cw x.V (x.Z i) (x.D i) (x.S i) (x.F i) X) N := sumW_le N (fun j hj => by
      rw [eZ j hj, eD j hj, eS j hj, eF j hj]
      exact Int.mul_le_mul_of_nonneg_left (cw_told (B.z j hj).1 (headOk (hh j hj)).1 (B.d j hj) (B.sf j hj) (hcost j hj).1) (hW j hj))
    by_cases hold : ∃ j, j < N ∧ 0 < x.Z j ∧ x.F j ≤ X
    · have := B.b X hold
      omega
    · have hout : ∀ j, j < N → cw x.V (x.Z j) (x.D j) (x.S j) (x.F j) X ≤ pos (X - x.V) := fun j hj => cw_out (fun q => hold ⟨j, hj, q⟩)
      have hVX : x.V ≤ X := by
        rcases hr_V (V := x.V) (s := x.S i) (f := x.F i) (z := x.Z i) (d := x.D i) (c := costI (h i) (W i) ALL) (show h i ≠ 0 by omega) (hcost i hi).1 (B.z i hi).1 with ⟨e1, e2⟩ | e | e
        · exact absurd ⟨i, hi, e1, by omega⟩ hold
        · omega
        · have e2 := B.d i hi e
          rw [e, hr_S (by omega)] at hfX
          exact absurd ⟨i, hi, e2, by have := (hcost i hi).1; omega⟩ hold
      have h1 := sum_in hW hA hout
      rw [pos_of (by omega), Int.mul_sub] at h1
      have h2 : 0 ≤ ALL * 720720 * most := Int.mul_nonneg (Int.mul_nonneg (by rw [← hA]; exact sumW_nn N hW) (by omega)) hm0
      omega
end Fb
end Go.Proofs.Ytbbcongfaoopcaa
namespace Go.Proofs.Ytbbcongfaoopcaa
open Go.ChangeShapes Go.WideShapes Go.ChangeAt Go.RowKit Go.Maps
set_option linter.unusedVariables false
set_option linter.unusedSimpArgs false
open BigFrame Pk Fq Vr Fa Fb

namespace Fb
/-- What a pick does, where one is ready. -/
def Served1 (N : Nat) (h : Nat → Int) (y : Sched) (p : Picked) : Prop :=
  ∃ k V1, p = ⟨((k : Nat) : Int), true, ⟨V1 + h k * 720720, y.Z, upb y.D k true, y.S, y.F⟩⟩ ∧ k < N ∧ 0 < h k ∧ y.V ≤ V1 ∧ y.S k ≤ V1 ∧ (∀ i, i < N → 0 < h i → y.S i ≤ V1 → y.F k ≤ y.F i) ∧ (V1 = y.V ∨ ∀ i, i < N → 0 < h i → V1 ≤ y.S i)
theorem pick_yes {N : Nat} {h : Nat → Int} {y : Sched} (hex : ∃ i, i < N ∧ 0 < h i) : Served1 N h y (pickX N h y) := by
  have hno : ¬ leastK y.S (rdy h) N < 0 := fun q => by
    obtain ⟨i, hi, hp⟩ := hex
    have := leastK_no q i hi
    simp [rdy] at this
    omega
  obtain ⟨kn, hkn, hkN, hkr, hkS⟩ := pick_some (F := y.F) (V := y.V) hno
  have h1 := leastK_yes (O := y.S) (m := rdy h) (n := N) (by omega)
  have h3 := leastK_yes (O := y.F) (m := fun i => rdy h i && decide (y.S i ≤ max y.V (y.S (leastK y.S (rdy h) N).toNat))) (n := N) (by rw [hkn]; omega)
  rw [hkn, Int.toNat_natCast] at h3
  refine ⟨kn, max y.V (y.S (leastK y.S (rdy h) N).toNat), ?_, hkN, by simpa [rdy] using hkr, by omega, hkS, fun i hi hp hs => h3.2 i hi (by simp [rdy, hp]; omega), ?_⟩
  · unfold pickX
    rw [if_neg hno]
    simp only [hkn, Int.toNat_natCast]
  · by_cases q : y.S (leastK y.S (rdy h) N).toNat ≤ y.V
    · left; omega
    · right
      intro i hi hp
      have := h1.2 i hi (by simp [rdy, hp])
      omega
/-- A pick keeps the bound. -/
theorem BI.pick {N fl : Nat} {ALL most own : Int} {W h : Nat → Int} {y : Sched} {p : Picked} (B : BI N ALL 720720 most own fl W y) (hD : ∀ i, i < N → y.D i = false) (hZ : ∀ i, i < N → y.Z i = h i) (hW : ∀ i, i < N → 1 ≤ W i ∧ W i ≤ ALL) (hA : sumW W N = ALL) (hf : fl < N)
    (hm0 : 0 ≤ most) (ho0 : 0 ≤ own) (S : Served1 N h y p) : BI N ALL 720720 most own fl W p.x := by
  obtain ⟨k, V1, rfl, hk, hp, hV1, hkS, hmin, hj⟩ := S
  have hW0 : ∀ i, i < N → 0 ≤ W i := fun i hi => by have := hW i hi; omega
  have hm2 : 0 ≤ ALL * 720720 * most := Int.mul_nonneg (Int.mul_nonneg (by rw [← hA]; exact sumW_nn N hW0) (by omega)) hm0
  have hkm : h k ≤ most := by have := (B.z k hk).2; rw [hZ k hk] at this; exact this
  have hktag := B.tag k hk (by rw [hZ k hk]; exact hp) (hD k hk)
  rw [hZ k hk] at hktag
  have hJ : ∀ X, (∃ i, i < N ∧ 0 < y.Z i ∧ y.F i ≤ X) → ALL * V1 + sumW (fun i => W i * cw V1 (y.Z i) (y.D i) (y.S i) (y.F i) X) N ≤ ALL * X + ALL * 720720 * most := fun X hX => by
    rcases hj with e | e
    · rw [e]; exact B.b X hX
    · obtain ⟨i, hi, hz, hfX⟩ := hX
      have hsi := e i hi (by rw [← hZ i hi]; exact hz)
      have hsf := B.sf i hi
      have h1 := sum_in (c := fun i => cw V1 (y.Z i) (y.D i) (y.S i) (y.F i) X) (y := pos (X - V1)) hW0 hA (fun j hj => by
        show cw V1 (y.Z j) (y.D j) (y.S j) (y.F j) X ≤ pos (X - V1)
        rw [hD j hj]
        unfold cw
        by_cases hz : 0 < y.Z j
        · have := e j hj (by rw [← hZ j hj]; exact hz)
          rw [if_pos hz, if_neg (by simp)]
          split
          · exact pos_mono (by omega)
          · exact (pos_max _ _ _).2
        · rw [if_neg hz]; exact (pos_max _ _ _).2)
      rw [pos_of (by omega), Int.mul_sub] at h1
      omega
  refine ⟨B.z, B.zo, fun i hi hd => ?_, B.sf, fun i hi hz hd => ?_, ?_, fun X hX => ?_⟩
  · simp only [upb] at hd
    by_cases e : i = k
    · subst e; show 0 < y.Z i; rw [hZ i hi]; exact hp
    · rw [if_neg e] at hd; exact B.d i hi hd
  · simp only [upb] at hd
    by_cases e : i = k
    · rw [if_pos e] at hd; cases hd
    · rw [if_neg e] at hd; exact B.tag i hi hz hd
  · have hA' := B.a
    have hwf := hW fl hf
    have hmk : W fl * y.V ≤ W fl * (V1 + h k * 720720) := Int.mul_le_mul_of_nonneg_left (by omega) (hW0 fl hf)
    show W fl * ((if 0 < y.Z fl ∧ upb y.D k true fl = false then y.S fl else y.F fl) - (V1 + h k * 720720)) ≤ own * (ALL - W fl) * 720720
    by_cases e : fl = k
    · subst e
      have eD : upb y.D fl true fl = true := by simp [upb]
      rw [eD, if_neg (by simp)]
      have hko : h fl ≤ own := by have := B.zo; rw [hZ fl hf] at this; exact this
      have h1 : W fl * y.S fl ≤ W fl * V1 := Int.mul_le_mul_of_nonneg_left hkS (hW0 fl hf)
      rw [Int.mul_sub] at hktag ⊢
      rw [Int.mul_add]
      have h2 : h fl * ((ALL - W fl) * 720720) ≤ own * ((ALL - W fl) * 720720) := Int.mul_le_mul_of_nonneg_right hko (Int.mul_nonneg (by omega) (by omega))
      have h3 : h fl * ((ALL - W fl) * 720720) = h fl * ALL * 720720 - W fl * (h fl * 720720) := by
        rw [Int.sub_mul, Int.mul_sub, Int.mul_assoc, Int.mul_left_comm (h fl) (W fl)]
      have h4 : own * (ALL - W fl) * 720720 = own * ((ALL - W fl) * 720720) := Int.mul_assoc _ _ _
      omega
    · have eD : upb y.D k true fl = y.D fl := if_neg e
      rw [eD]
      rw [Int.mul_sub] at hA' ⊢
      omega
  · obtain ⟨i, hi, hz, hfX⟩ : ∃ i, i < N ∧ 0 < y.Z i ∧ y.F i ≤ X := hX
    show ALL * (V1 + h k * 720720) + sumW (fun i => W i * cw (V1 + h k * 720720) (y.Z i) (upb y.D k true i) (y.S i) (y.F i) X) N ≤ ALL * X + ALL * 720720 * most
    have hup : ∀ j, j < N → j ≠ k → W j * cw (V1 + h k * 720720) (y.Z j) (upb y.D k true j) (y.S j) (y.F j) X ≤ W j * cw V1 (y.Z j) (y.D j) (y.S j) (y.F j) X := fun j hj e => by
      simp only [upb, if_neg e]
      exact Int.mul_le_mul_of_nonneg_left (cw_up (by omega)) (hW0 j hj)
    by_cases hc : y.F k ≤ X
    · have hkz : 0 < y.Z k := by rw [hZ k hk]; exact hp
      have hI := hJ X ⟨k, hk, hkz, hc⟩
      have hck : W k * cw (V1 + h k * 720720) (y.Z k) (upb y.D k true k) (y.S k) (y.F k) X + h k * ALL * 720720 ≤ W k * cw V1 (y.Z k) (y.D k) (y.S k) (y.F k) X := by
        have e1 : cw (V1 + h k * 720720) (y.Z k) (upb y.D k true k) (y.S k) (y.F k) X = X - y.F k := by
          unfold cw upb
          rw [if_pos hkz, if_pos rfl, if_pos rfl, pos_of (by omega)]
        have e2 : cw V1 (y.Z k) (y.D k) (y.S k) (y.F k) X = X - y.S k := by
          unfold cw
          rw [if_pos hkz, hD k hk, if_neg (by simp), if_pos hc, pos_of (by have := B.sf k hk; omega)]
        rw [e1, e2]
        rw [Int.mul_sub] at hktag
        rw [Int.mul_sub, Int.mul_sub]
        omega
      have hs := sumW_sub (a := fun i => W i * cw (V1 + h k * 720720) (y.Z i) (upb y.D k true i) (y.S i) (y.F i) X) (b := fun i => W i * cw V1 (y.Z i) (y.D i) (y.S i) (y.F i) X) hck N hk hup
      rw [Int.mul_add]
      have e3 : ALL * (h k * 720720) = h k * ALL * 720720 := by rw [Int.mul_left_comm, Int.mul_assoc]
      omega
    · have hnel : ¬ y.S i ≤ V1 := fun q => by
        have := hmin i hi (by rw [← hZ i hi]; exact hz) q
        omega
      have hsf := B.sf i hi
      have h1 := sum_in (c := fun i => cw (V1 + h k * 720720) (y.Z i) (upb y.D k true i) (y.S i) (y.F i) X) (y := pos (X - V1)) hW0 hA (fun j hj => by
        show cw (V1 + h k * 720720) (y.Z j) (upb y.D k true j) (y.S j) (y.F j) X ≤ pos (X - V1)
        by_cases e : j = k
        · subst e
          unfold cw upb
          rw [if_pos (by rw [hZ j hj]; exact hp), if_pos rfl, if_pos rfl, pos_no (by omega)]
          exact (pos_ge _).1
        · refine Int.le_trans (cw_up (V := V1) (by omega)) ?_
          simp only [upb, if_neg e]
          rw [hD j hj]
          unfold cw
          by_cases hz : 0 < y.Z j
          · rw [if_pos hz, if_neg (by simp)]
            split
            · rename_i hfj
              refine pos_mono ?_
              by_cases q : y.S j ≤ V1
              · have := hmin j hj (by rw [← hZ j hj]; exact hz) q
                omega
              · omega
            · exact (pos_max _ _ _).2
          · rw [if_neg hz]; exact (pos_max _ _ _).2)
      rw [pos_of (by omega), Int.mul_sub] at h1
      rw [Int.mul_add]
      have e3 : ALL * (h k * 720720) = ALL * 720720 * h k := by rw [Int.mul_assoc, Int.mul_comm (h k)]
      have h4 : ALL * 720720 * h k ≤ ALL * 720720 * most := Int.mul_le_mul_of_nonneg_left hkm (Int.mul_nonneg (by rw [← hA]; exact sumW_nn N hW0) (by omega))
      omega
end Fb
end Go.Proofs.Ytbbcongfaoopcaa
namespace Go.Proofs.Ytbbcongfaoopcaa
open Go.ChangeShapes Go.WideShapes Go.ChangeAt Go.RowKit Go.Maps
set_option linter.unusedVariables false
set_option linter.unusedSimpArgs false
open BigFrame Pk Fq Vr Fa Fb

namespace Fb
/-- How far a flow that is asked for may be behind. -/
theorem BI.far {N fl : Nat} {ALL most own : Int} {W : Nat → Int} {x : Sched} (B : BI N ALL 720720 most own fl W x) (hW : ∀ i, i < N → 1 ≤ W i ∧ W i ≤ ALL) (hf : fl < N) (hz : 0 < x.Z fl) :
    W fl * (x.V - nx (x.Z fl) (x.D fl) (x.S fl) (x.F fl)) ≤ own * (ALL - W fl) * 720720 + W fl * (720720 * most) ∧ W fl * (nx (x.Z fl) (x.D fl) (x.S fl) (x.F fl) - x.V) ≤ own * (ALL - W fl) * 720720 := by
  have hwf := hW fl hf
  have hW0 : ∀ i, i < N → 0 ≤ W i * cw x.V (x.Z i) (x.D i) (x.S i) (x.F i) (x.F fl) := fun i hi => Int.mul_nonneg (by have := hW i hi; omega) (cw_ge _ _ _ _ _ _)
  have hb := B.b (x.F fl) ⟨fl, hf, hz, Int.le_refl _⟩
  have h1 := sumW_one (a := fun i => W i * cw x.V (x.Z i) (x.D i) (x.S i) (x.F i) (x.F fl)) (k := fl) N hf hW0
  refine ⟨?_, B.a⟩
  unfold nx
  have e0 : ALL * 720720 * most = ALL * (720720 * most) := Int.mul_assoc _ _ _
  cases hd : x.D fl with
  | true =>
    rw [if_neg (by simp)]
    have h2 := hW0 fl hf
    have h3 : ALL * x.V ≤ ALL * (x.F fl + 720720 * most) := by rw [Int.mul_add]; omega
    have h4 := Int.le_of_mul_le_mul_left h3 (by omega)
    have h5 : W fl * (x.V - x.F fl) ≤ W fl * (720720 * most) := Int.mul_le_mul_of_nonneg_left (by omega) (by omega)
    have h6 : 0 ≤ own * (ALL - W fl) * 720720 := Int.mul_nonneg (Int.mul_nonneg (by have := (B.z fl hf).1; have := B.zo; omega) (by omega)) (by omega)
    omega
  | false =>
    rw [if_pos ⟨hz, rfl⟩]
    have ht := B.tag fl hf hz hd
    have e1 : W fl * cw x.V (x.Z fl) (x.D fl) (x.S fl) (x.F fl) (x.F fl) = x.Z fl * ALL * 720720 := by
      have : cw x.V (x.Z fl) (x.D fl) (x.S fl) (x.F fl) (x.F fl) = x.F fl - x.S fl := by
        unfold cw
        rw [if_pos hz, hd, if_neg (by simp), if_pos (Int.le_refl _), pos_of (by have := B.sf fl hf; omega)]
      rw [this]; exact ht
    have e2 : x.Z fl * ALL * 720720 = ALL * (x.Z fl * 720720) := by rw [Int.mul_comm (x.Z fl) ALL, Int.mul_assoc]
    have h3 : ALL * (x.V + x.Z fl * 720720) ≤ ALL * (x.F fl + 720720 * most) := by
      rw [Int.mul_add, Int.mul_add]
      omega
    have h4 := Int.le_of_mul_le_mul_left h3 (by omega)
    have h5 : W fl * (x.V + x.Z fl * 720720) ≤ W fl * (x.F fl + 720720 * most) := Int.mul_le_mul_of_nonneg_left h4 (by omega)
    rw [Int.mul_add, Int.mul_add] at h5
    rw [Int.mul_sub] at ht ⊢
    have h6 : x.Z fl * ((ALL - W fl) * 720720) ≤ own * ((ALL - W fl) * 720720) := Int.mul_le_mul_of_nonneg_right B.zo (Int.mul_nonneg (by omega) (by omega))
    have h7 : x.Z fl * ((ALL - W fl) * 720720) = x.Z fl * ALL * 720720 - W fl * (x.Z fl * 720720) := by
      rw [Int.sub_mul, Int.mul_sub, Int.mul_assoc, Int.mul_left_comm (x.Z fl) (W fl)]
    have h8 : own * (ALL - W fl) * 720720 = own * ((ALL - W fl) * 720720) := Int.mul_assoc _ _ _
    omega
/-- What holds of a place behind which a flow was ready throughout: dA was served since, dM of it to the flow. -/
def Qk (w ALL own dA dM V T : Int) : Prop := w * (720720 * dA) - dM * ALL * 720720 ≤ w * (V - T) + own * (ALL - w) * 720720
theorem Qk.step {w ALL own dA dM V T m mi V2 T2 : Int} (h : Qk w ALL own dA dM V T) (hw : 0 ≤ w) (hV : V + m * 720720 ≤ V2) (hT : w * (T2 - T) = mi * ALL * 720720) : Qk w ALL own (dA + m) (dM + mi) V2 T2 := by
  unfold Qk at *
  have h1 : w * (V + m * 720720) ≤ w * V2 := Int.mul_le_mul_of_nonneg_left hV hw
  rw [Int.mul_sub] at h hT ⊢
  rw [Int.mul_add] at h1
  rw [Int.mul_add 720720, Int.mul_add w, Int.add_mul dM, Int.add_mul (dM * ALL)]
  rw [show (720720 : Int) * m = m * 720720 from Int.mul_comm _ _]
  omega
theorem Qk.new {w ALL own V T m mi V2 T2 : Int} (ha : w * (T - V) ≤ own * (ALL - w) * 720720) (hw : 0 ≤ w) (hV : V + m * 720720 ≤ V2) (hT : w * (T2 - T) = mi * ALL * 720720) : Qk w ALL own m mi V2 T2 := by
  have h0 : Qk w ALL own 0 0 V T := by
    unfold Qk
    rw [Int.mul_sub] at ha ⊢
    simp only [Int.mul_zero, Int.zero_mul]
    omega
  have := h0.step hw hV hT
  rwa [Int.zero_add, Int.zero_add] at this
/-- The bound itself. -/
theorem Qk.holds {w ALL own most dA dM V T : Int} (h : Qk w ALL own dA dM V T) (hf : w * (V - T) ≤ own * (ALL - w) * 720720 + w * (720720 * most)) : w * dA - (2 * own * ALL + (most - 2 * own) * w) ≤ dM * ALL := by
  unfold Qk at h
  have e1 : w * (720720 * dA) = 720720 * (w * dA) := Int.mul_left_comm _ _ _
  have e2 : w * (720720 * most) = 720720 * (w * most) := Int.mul_left_comm _ _ _
  have e3 : own * (ALL - w) = own * ALL - own * w := Int.mul_sub _ _ _
  have e4 : (most - 2 * own) * w = w * most - 2 * (own * w) := by rw [Int.sub_mul, Int.mul_comm most w, Int.mul_assoc]
  have e5 : 2 * own * ALL = 2 * (own * ALL) := Int.mul_assoc _ _ _
  rw [e1] at h
  rw [e2] at hf
  rw [e3] at h hf
  rw [e4, e5]
  omega
/-- What a pick does to a flow that is asked for. -/
theorem nx_pick {N fl : Nat} {ALL most own : Int} {W h : Nat → Int} {y : Sched} {p : Picked} (B : BI N ALL 720720 most own fl W y) (hD : ∀ i, i < N → y.D i = false) (hZ : ∀ i, i < N → y.Z i = h i) (hf : fl < N) (hr : 0 < h fl) (S : Served1 N h y p) :
    ∃ k : Nat, p.k = (k : Int) ∧ p.ok = true ∧ k < N ∧ 0 < h k ∧ y.V + h k * 720720 ≤ p.x.V ∧ p.x.Z = y.Z ∧ p.x.D = upb y.D k true ∧
      W fl * (nx (p.x.Z fl) (p.x.D fl) (p.x.S fl) (p.x.F fl) - nx (y.Z fl) (y.D fl) (y.S fl) (y.F fl)) = (if k = fl then h k else 0) * ALL * 720720 := by
  obtain ⟨k, V1, rfl, hk, hp, hV1, hkS, hmin, hj⟩ := S
  refine ⟨k, rfl, rfl, hk, hp, by show y.V + _ ≤ V1 + _; omega, rfl, rfl, ?_⟩
  show W fl * (nx (y.Z fl) (upb y.D k true fl) (y.S fl) (y.F fl) - nx (y.Z fl) (y.D fl) (y.S fl) (y.F fl)) = _
  have hz : 0 < y.Z fl := by rw [hZ fl hf]; exact hr
  by_cases e : k = fl
  · subst e
    rw [if_pos rfl]
    have eD : upb y.D k true k = true := by simp [upb]
    unfold nx
    rw [eD, hD k hk, if_neg (by simp), if_pos ⟨hz, rfl⟩, ← hZ k hk]
    exact B.tag k hk hz (hD k hk)
  · rw [if_neg e]
    have eD : upb y.D k true fl = y.D fl := if_neg (fun q => e q.symm)
    rw [eD, Int.sub_self]
    simp
/-- A flow that was asked for, and is, with the same head or the next one, begins where it would have. -/
theorem nx_same {V z n c s f : Int} {d : Bool} (hz : 0 < z) (hn : 0 < n) (hs : d = false → z = n) : nx n false (hrS V s f z n c d) (hrF V s f z n c d) = nx z d s f := by
  unfold nx
  rw [if_pos ⟨hn, rfl⟩]
  cases d with
  | true => rw [if_neg (by simp)]; simp [hrS, hrF1, show n ≠ 0 by omega]
  | false =>
    have := hs rfl
    subst this
    rw [if_pos ⟨hz, rfl⟩]
    simp [hrS, hrF1, show z ≠ 0 by omega]
end Fb
end Go.Proofs.Ytbbcongfaoopcaa
namespace Go.Proofs.Ytbbcongfaoopcaa
open Go.ChangeShapes Go.WideShapes Go.ChangeAt Go.RowKit Go.Maps
set_option linter.unusedVariables false
set_option linter.unusedSimpArgs false
open BigFrame Pk Fq Vr Fa Fb

namespace Fb
/-- May a flow go, by a mask? -/
def mb (mask : Int) (j : Nat) : Bool := bits BinOp.and IntKind.i64 (mask / 2 ^ j) 1 == 0
def headM (Q : Nat → List Int) (t : Nat → Nat) (mask : Int) : Nat → Int := fun j => if mb mask j = true then headsQ Q t j else 0
theorem headM_ok {Q : Nat → List Int} {N : Nat} (hg : goodQ Q N) (t : Nat → Nat) (mask : Int) : ∀ i, i < N → headBad (headM Q t mask i) = false := fun i hi => by
  unfold headM
  split
  · exact headsQ_ok hg t i hi
  · simp [headBad]
def LPick (p : Picked) (h : Nat → Int) (tb0 f lb cl N : Nat) (ALL : Int) (W : Nat → Int) (w : World) (e : Ending) (w' : World) : Prop :=
  ∃ tb ct, e = .returned (.tuple #[.int .i64 p.k, .int .i64 (if p.ok = true then h p.k.toNat else 0), .bool p.ok]) ∧ FD w' f lb cl tb ct N ALL p.x.V W p.x.Z p.x.D p.x.S p.x.F ∧ (tb = tb0 ∨ w.heap.size ≤ tb) ∧ KF [f, lb] w w'
end Fb

set_option maxRecDepth 100000 in
set_option maxHeartbeats 20000000 in
theorem lpick_c (w : World) (f lb cl tb ct N b2 off2 c2 ab ac : Nat) (ALL M mask : Int) (W : Nat → Int) (x : Sched) (A : Nat → Option Addr) (L C : Nat → Nat) (Q : Nat → List Int) (t : Nat → Nat)
    (hd : FD w f lb cl tb ct N ALL x.V W x.Z x.D x.S x.F) (H : Inv M ALL x.V N W x.Z x.D x.S x.F) (hM : M ≤ 1000000000000000) (T : QsAt w (some ⟨b2, off2, none⟩) b2 off2 N A L C Q) (hat : ∀ i, i < N → w.cell? ⟨ab, i, none⟩ = some (.int .i64 ((t i : Nat) : Int))) (hab : ab < w.heap.size) (ht : ∀ i, i < N → t i ≤ (Q i).length) (hg : goodQ Q N) :
    Calls Try.prog 12 #[.pointer (some ⟨f, 0, none⟩), .slice (some ⟨b2, off2, none⟩) N c2, .slice (some ⟨ab, 0, none⟩) N ac, .int .i64 mask] w (LPick (pickX N (headM Q t mask) (toldN N ALL x.V W x.Z x.D x.S x.F (headM Q t mask))) (headM Q t mask) tb f lb cl N ALL W w) := by
  have n1 := hd.n1
  have n8 := hd.n8
  have hN1 : (1 : Int) ≤ (N : Int) := by omega
  have hN8 : (N : Int) ≤ 8 := by omega
  have hb2 := T.hb (by omega)
  have hfl := hd.b.l
  have hll := hd.l.l
  have htl := hd.tl
  replace hd := Lib.hid hd
  replace H := Lib.hid H
  replace T := Lib.hid T
  replace hat := Lib.hid hat
  replace ht := Lib.hid ht
  replace hg := Lib.hid hg
  go_enter Try.func12, Try.ntmps12
  go_wp2_with fail
  go_loopw [11, 12, 13] (fun s11 s12 _ wr => ∃ (j : Nat) (hv : Option Addr) (hc : Nat), s11 = .slice hv j hc ∧ s12 = .int .i64 (j : Nat) ∧ j ≤ N ∧ RowKit.Hid (OwnH wr w.heap.size (.slice hv j hc) (headM Q t mask) j) ∧ RowKit.Hid (Below w.heap.size w wr)) (fun _ s12 _ _ => N - (intOf s12).toNat)
  case atStart => exact ⟨0, none, 0, rfl, rfl, Nat.zero_le _, Lib.hid (OwnH.nil _ _ _), Lib.hid (Below.refl _ _)⟩
  case round =>
    obtain ⟨j, hv, hc, rfl, rfl, hj, hO, hB⟩ := hrel
    have jj : (j : Int) ≤ (N : Int) := by omega
    by_cases hjl : j < N
    · have jj1 : (j : Int) < (N : Int) := by omega
      have x0 := (hB.out.cell (p := ⟨ab, j, none⟩) hab).trans (hat.out j hjl)
      have x1 := (T.out.bel hB.out).c0 j hjl
      have hq2 := (T.out.bel hB.out).q j hjl
      have htj := ht.out j hjl
      have hlen := hq2.len
      have hcap := hq2.cap
      have hmax := hq2.max
      obtain ⟨tj, et⟩ : ∃ n, t j = n := ⟨_, rfl⟩
      obtain ⟨Lj, eL⟩ : ∃ n, L j = n := ⟨_, rfl⟩
      rw [et] at x0 htj
      rw [eL] at x1 hlen hcap
      rw [hlen] at htj
      have hz3 : (Lj : Int) ≤ 9223372036854775807 := by omega
      have ha0 := (Below.refl wr.heap.size wr).alloc (Nat.le_refl _) (.cells #[.int .i64 0, .int .i64 0] 60)
      have hj8 : (j : Int) < 64 := by omega
      have hj0 : ¬ (j : Int) < 0 := by omega
      go_upto_region 6 with fail
      have hO3 := hO.out.kf (KF.of (l := []) ha0) (fun q hq => by simp)
      have hB3 := hB.out.alloc hB.out.size (.cells #[.int .i64 0, .int .i64 0] 60)
      have xb := blk_new wr (.int .i64 0) (.int .i64 0) 60
      replace x0 := cellB ha0 x0
      replace x1 := cellB ha0 x1
      have hq3 := hq2.bel ha0
      have hqsz : w.heap.size ≤ wr.heap.size := hB.out.size
      have hqb : RowKit.Hid (∀ q, (Value.slice hv j hc).ownBlock = some q → q < wr.heap.size) := Lib.hid (fun q e => (hO.out.lt e).2)
      generalize wr.alloc (.cells #[.int .i64 0, .int .i64 0] 60) = W3 at hO3 hB3 xb x0 x1 hq3 ⊢
      generalize wr.heap.size = bx at xb hqsz hqb ⊢
      clear ha0 hq2 hO hB
      replace hO3 := Lib.hid hO3
      replace hB3 := Lib.hid hB3
      replace xb := Lib.hid xb
      replace hq3 := Lib.hid hq3
      by_cases hpos : tj < Lj
      · have hpz : (tj : Int) < (Lj : Int) := by omega
        cases hmb : mb mask j with
        | true =>
          have hmb2 : (bits BinOp.and IntKind.i64 (mask / 2 ^ j) 1 == 0) = true := hmb
          obtain ⟨bj, oj, eA, hbj, hcj⟩ := hq3.out.row (by omega)
          obtain ⟨y, hy⟩ : ∃ y, (Q j)[tj]? = some y := ⟨_, List.getElem?_eq_getElem (by omega)⟩
          have hhy : RowKit.Hid (headM Q t mask j = y) := Lib.hid (by unfold headM headsQ; rw [if_pos hmb, et, List.getD_eq_getElem?_getD, hy]; rfl)
          have v0 := hcj tj y hy
          rw [eA] at x1
          replace hy := Lib.hid hy
          replace hcj := Lib.hid hcj
          clear eA
          go_big_quiet (fail)
          have hbd := bDrew (Below.refl W3.heap.size W3) nq
          have hO4 := hO3.out.kf (KF.of (l := []) hbd) (fun q hq => by simp)
          have hB4 := hB3.out.trans (hbd.mono hB3.out.size)
          have xb4 := xb.out.bel hbd
          replace x0 := cellB hbd x0
          replace x1 := cellB hbd x1
          replace v0 := cellB hbd v0
          generalize W3.drewN nq = W4 at hO4 hB4 xb4 x0 x1 v0 ⊢
          go_upto_region 7 with fail
          replace xb4 := Lib.hid xb4
          refine wp_region_noPanic ?_
          refine Stg.wp_region_L [11] (Vr.SB W4) (by kernel_rfl) (fun _ => (Below.refl _ _).drew) (fun hHeld => ?_)
          refine Stg.wpAnyL_start (n' := 12) (l' := #[false, false, false, false, false, false, false, false, false, false, false, false]) (by kernel_rfl) (by kernel_rfl) ?_
          refine Stg.wpAnyL_free (i := 0) (v := ?_) 0 rfl (by kernel_rfl) (by kernel_rfl) (by kernel_rfl) (by kernel_rfl) (by kernel_rfl) (fun _ _ _ h => h) (Or.inl ⟨by kernel_rfl, ?_⟩) (by assumption) ?_
          rotate_left
          · intro u _
            try simp only [List.getElem_toArray, List.getElem_cons_succ, List.getElem_cons_zero]
            go_simp
            try with_reducible rfl
          try simp only [Act.put, List.setIfInBounds_toArray, List.set_cons_zero, List.set_cons_succ]
          refine Stg.wpAnyL_free (i := 1) (v := ?_) 0 rfl (by kernel_rfl) (by kernel_rfl) (by kernel_rfl) (by kernel_rfl) (by kernel_rfl) (fun _ _ _ h => h) (Or.inl ⟨by kernel_rfl, ?_⟩) (by assumption) ?_
          rotate_left
          · intro u _
            try simp only [List.getElem_toArray, List.getElem_cons_succ, List.getElem_cons_zero]
            go_simp
            try with_reducible rfl
          try simp only [Act.put, List.setIfInBounds_toArray, List.set_cons_zero, List.set_cons_succ]
          refine Stg.wpAnyL_free (i := 2) (v := ?_) 0 rfl (by kernel_rfl) (by kernel_rfl) (by kernel_rfl) (by kernel_rfl) (by kernel_rfl) (fun _ _ _ h => h) (Or.inl ⟨by kernel_rfl, ?_⟩) (by assumption) ?_
          rotate_left
          · intro u _
            try simp only [List.getElem_toArray, List.getElem_cons_succ, List.getElem_cons_zero]
            go_simp
            try with_reducible rfl
          try simp only [Act.put, List.setIfInBounds_toArray, List.set_cons_zero, List.set_cons_succ]
          refine Stg.wpAnyL_start (n' := 9) (l' := #[true, true, true, false, false, false, false, false, false, false, false, false]) (by kernel_rfl) (by kernel_rfl) ?_
          refine Stg.wpAnyL_take (i := 3) (v := ?_) [8, 9, 10, 11] 0 rfl (by kernel_rfl) (by kernel_rfl) (by kernel_rfl) (by kernel_rfl) (by kernel_rfl) (fun _ _ _ h => h) (Or.inl ⟨by kernel_rfl, ?_⟩) (by assumption) ?_
          rotate_left
          · intro u hSu
            skip
            have sB := hSu rfl
            have y0 := cellB sB x0
            have y1 := cellB sB x1
            have y2 := cellB sB v0
            try simp only [List.getElem_toArray, List.getElem_cons_succ, List.getElem_cons_zero]
            go_simp
            try with_reducible rfl
          try simp only [Act.put, List.setIfInBounds_toArray, List.set_cons_zero, List.set_cons_succ]
          refine Stg.wpAnyL_free (i := 4) (v := ?_) 0 rfl (by kernel_rfl) (by kernel_rfl) (by kernel_rfl) (by kernel_rfl) (by kernel_rfl) (fun _ _ _ h => h) (Or.inl ⟨by kernel_rfl, ?_⟩) (by assumption) ?_
          rotate_left
          · intro u _
            try simp only [List.getElem_toArray, List.getElem_cons_succ, List.getElem_cons_zero]
            go_simp
            try with_reducible rfl
          try simp only [Act.put, List.setIfInBounds_toArray, List.set_cons_zero, List.set_cons_succ]
          refine Stg.wpAnyL_free (i := 5) (v := ?_) 0 rfl (by kernel_rfl) (by kernel_rfl) (by kernel_rfl) (by kernel_rfl) (by kernel_rfl) (fun _ _ _ h => h) (Or.inl ⟨by kernel_rfl, ?_⟩) (by assumption) ?_
          rotate_left
          · intro u _
            try simp only [List.getElem_toArray, List.getElem_cons_succ, List.getElem_cons_zero]
            go_simp
            try with_reducible rfl
          try simp only [Act.put, List.setIfInBounds_toArray, List.set_cons_zero, List.set_cons_succ]
          refine Stg.wpAnyL_start (n' := 6) (l' := #[true, true, true, true, true, true, false, false, false, false, false, false]) (by kernel_rfl) (by kernel_rfl) ?_
          refine Stg.wpAnyL_free (i := 6) (v := ?_) 0 rfl (by kernel_rfl) (by kernel_rfl) (by kernel_rfl) (by kernel_rfl) (by kernel_rfl) (fun _ _ _ h => h) (Or.inl ⟨by kernel_rfl, ?_⟩) (by assumption) ?_
          rotate_left
          · intro u _
            try simp only [List.getElem_toArray, List.getElem_cons_succ, List.getElem_cons_zero]
            go_simp
            try with_reducible rfl
          try simp only [Act.put, List.setIfInBounds_toArray, List.set_cons_zero, List.set_cons_succ]
          refine Stg.wpAnyL_take (i := 7) (v := ?_) [8, 9, 10, 11] 0 rfl (by kernel_rfl) (by kernel_rfl) (by kernel_rfl) (by kernel_rfl) (by kernel_rfl) (fun _ _ _ h => h) (Or.inl ⟨by kernel_rfl, ?_⟩) (by assumption) ?_
          rotate_left
          · intro u hSu
            skip
            have sB := hSu rfl
            have y0 := cellB sB x0
            have y1 := cellB sB x1
            have y2 := cellB sB v0
            try simp only [List.getElem_toArray, List.getElem_cons_succ, List.getElem_cons_zero]
            go_simp
            try with_reducible rfl
          try simp only [Act.put, List.setIfInBounds_toArray, List.set_cons_zero, List.set_cons_succ]
          refine Stg.wpAnyL_free (i := 8) (v := ?_) 0 rfl (by kernel_rfl) (by kernel_rfl) (by kernel_rfl) (by kernel_rfl) (by kernel_rfl) (fun _ _ _ h => h) (Or.inl ⟨by kernel_rfl, ?_⟩) (by assumption) ?_
          rotate_left
          · intro u _
            try simp only [List.getElem_toArray, List.getElem_cons_succ, List.getElem_cons_zero]
            go_simp
            try with_reducible rfl
          try simp only [Act.put, List.setIfInBounds_toArray, List.set_cons_zero, List.set_cons_succ]
          refine Stg.wpAnyL_start (n' := 3) (l' := #[true, true, true, true, true, true, true, true, true, false, false, false]) (by kernel_rfl) (by kernel_rfl) ?_
          refine Stg.wpAnyL_take (i := 9) (v := ?_) [10, 11] 0 rfl (by kernel_rfl) (by kernel_rfl) (by kernel_rfl) (by kernel_rfl) (by kernel_rfl) (fun _ _ _ h => h) (Or.inl ⟨by kernel_rfl, ?_⟩) (by assumption) ?_
          rotate_left
          · intro u hSu
            skip
            have sB := hSu rfl
            have y0 := cellB sB x0
            have y1 := cellB sB x1
            have y2 := cellB sB v0
            try simp only [List.getElem_toArray, List.getElem_cons_succ, List.getElem_cons_zero]
            go_simp
            try with_reducible rfl
          try simp only [Act.put, List.setIfInBounds_toArray, List.set_cons_zero, List.set_cons_succ]
          refine Stg.wpAnyL_free (i := 10) (v := ?_) 0 rfl (by kernel_rfl) (by kernel_rfl) (by kernel_rfl) (by kernel_rfl) (by kernel_rfl) (fun _ _ _ h => h) (Or.inl ⟨by kernel_rfl, ?_⟩) (by assumption) ?_
          rotate_left
          · intro u _
            try simp only [List.getElem_toArray, List.getElem_cons_succ, List.getElem_cons_zero]
            go_simp
            try with_reducible rfl
          try simp only [Act.put, List.setIfInBounds_toArray, List.set_cons_zero, List.set_cons_succ]
          refine Stg.wpAnyL_one (i := 11) 1 rfl (by kernel_rfl) (by kernel_rfl) (fun K hK => ?_)
          have z0 := (xb4.out.bel (hHeld rfl)).f 0
          have z1 := (xb4.out.bel (hHeld rfl)).c 0 _ rfl
          try simp only [List.getElem_toArray, List.getElem_cons_succ, List.getElem_cons_zero]
          go_simp
          refine hK.out _ _ ?_ (fun hHeld1 => ?_)
          · exact fun h => absurd h (by decide)
          clear hK K
          try simp only [Act.put, List.setIfInBounds_toArray, List.set_cons_zero, List.set_cons_succ]
          refine Stg.wpAnyL_done (by kernel_rfl) ?_ _
          try simp only [List.getElem_toArray, List.getElem_cons_succ, List.getElem_cons_zero]
          try simp only [Act.put, List.setIfInBounds_toArray, List.set_cons_zero, List.set_cons_succ]
          refine NoPanic.normal ?_
          clear z0 z1 x0 x1 v0 hHeld
          have hkb : KF [bx] W4 (W4.setCell ⟨bx, 0, none⟩ (.int .i64 y)).drew := ((KF.refl [bx] W4).set (p := ⟨bx, 0, none⟩) (.inl (by simp)) _).drew
          have hO6 := hO4.kf hkb (fun q hq => by have := hqb.out q hq; simp; omega)
          have hB6 := (hB4.setCell (p := ⟨bx, 0, none⟩) (by show w.heap.size ≤ bx; exact hqsz) (.int .i64 y)).drew
          have xb := (xb4.out.set (i := 0) (by simp) (.int .i64 y)).drew
          generalize (W4.setCell ⟨bx, 0, none⟩ (.int .i64 y)).drew = W6 at hO6 hB6 xb ⊢
          clear hkb hB4 hO4 xb4 hO3 hB3
          have q0 := xb.c 0 _ rfl
          have q1 := xb.c 1 _ rfl
          have hbk := Lib.hid (show Blk (W6.alloc (.cells #[.int .i64 y, .int .i64 0] 60)) W6.heap.size [.int .i64 (headM Q t mask j), .int .i64 0] by rw [hhy.out]; exact blk_new W6 (.int .i64 y) (.int .i64 0) 60)
          have hO8 := Lib.hid (hO6.kf (KF.of (l := []) ((Below.refl W6.heap.size W6).alloc (Nat.le_refl _) (.cells #[.int .i64 y, .int .i64 0] 60))) (fun q hq => by simp))
          have hszA := Lib.hid (show w.heap.size ≤ (W6.alloc (.cells #[.int .i64 y, .int .i64 0] 60)).heap.size by have := hB6.size; simp; omega)
          replace hB6 := Lib.hid hB6
          replace hO6 := Lib.hid hO6
          clear xb
          go_wp2_with (at_builtin; refine wpList_appH rfl _ _ rfl w.heap.size (.slice hv j hc) (headM Q t mask) j (by rfl) hO8.out hszA.out (by rfl) hbk.out (by omega) ?_; intro a5 n5 c5 w5 hown5 hn5 hsz5 hgrow5 hor5; obtain rfl : n5 = j + 1 := hn5; have hown5 := Lib.hid hown5; have hgrow5 := Lib.hid hgrow5; clear hor5 hsz5 hbk hO8 q0 q1)
          go_roundw
          case rel => exact ⟨j + 1, a5, c5, rfl, by go_num, hjl, hown5, Lib.hid ((hB6.out.alloc hB6.out.size _).grown hgrow5.out hszA.out (fun q hq => (hO6.out.lt hq).1))⟩
          case measure => simp [intOf]; omega
        | false =>
          have hmb2 : (bits BinOp.and IntKind.i64 (mask / 2 ^ j) 1 == 0) = false := hmb
          have hhy : RowKit.Hid (headM Q t mask j = 0) := Lib.hid (by unfold headM; rw [hmb]; rfl)
          go_big_quiet (fail)
          have hbd := bDrew (Below.refl W3.heap.size W3) nq
          have hO6 := hO3.out.kf (KF.of (l := []) hbd) (fun q hq => by simp)
          have hB6 := hB3.out.trans (hbd.mono hB3.out.size)
          have xb6 := xb.out.bel hbd
          clear xb x0 x1
          generalize W3.drewN nq = W6 at hO6 hB6 xb6 ⊢
          have xb := xb6
          clear xb6
          have q0 := xb.c 0 _ rfl
          have q1 := xb.c 1 _ rfl
          have hbk := Lib.hid (show Blk (W6.alloc (.cells #[.int .i64 0, .int .i64 0] 60)) W6.heap.size [.int .i64 (headM Q t mask j), .int .i64 0] by rw [hhy.out]; exact blk_new W6 (.int .i64 0) (.int .i64 0) 60)
          have hO8 := Lib.hid (hO6.kf (KF.of (l := []) ((Below.refl W6.heap.size W6).alloc (Nat.le_refl _) (.cells #[.int .i64 0, .int .i64 0] 60))) (fun q hq => by simp))
          have hszA := Lib.hid (show w.heap.size ≤ (W6.alloc (.cells #[.int .i64 0, .int .i64 0] 60)).heap.size by have := hB6.size; simp; omega)
          replace hB6 := Lib.hid hB6
          replace hO6 := Lib.hid hO6
          clear xb
          go_wp2_with (at_builtin; refine wpList_appH rfl _ _ rfl w.heap.size (.slice hv j hc) (headM Q t mask) j (by rfl) hO8.out hszA.out (by rfl) hbk.out (by omega) ?_; intro a5 n5 c5 w5 hown5 hn5 hsz5 hgrow5 hor5; obtain rfl : n5 = j + 1 := hn5; have hown5 := Lib.hid hown5; have hgrow5 := Lib.hid hgrow5; clear hor5 hsz5 hbk hO8 q0 q1)
          go_roundw
          case rel => exact ⟨j + 1, a5, c5, rfl, by go_num, hjl, hown5, Lib.hid ((hB6.out.alloc hB6.out.size _).grown hgrow5.out hszA.out (fun q hq => (hO6.out.lt hq).1))⟩
          case measure => simp [intOf]; omega
      · have hpz : ¬ (tj : Int) < (Lj : Int) := by omega
        have hhy : RowKit.Hid (headM Q t mask j = 0) := Lib.hid (by unfold headM; split; exact headsQ_out (by omega); rfl)
        go_big_quiet (fail)
        have hbd := bDrew (Below.refl W3.heap.size W3) nq
        have hO6 := hO3.out.kf (KF.of (l := []) hbd) (fun q hq => by simp)
        have hB6 := hB3.out.trans (hbd.mono hB3.out.size)
        have xb6 := xb.out.bel hbd
        clear xb x0 x1
        generalize W3.drewN nq = W6 at hO6 hB6 xb6 ⊢
        have xb := xb6
        clear xb6
        have q0 := xb.c 0 _ rfl
        have q1 := xb.c 1 _ rfl
        have hbk := Lib.hid (show Blk (W6.alloc (.cells #[.int .i64 0, .int .i64 0] 60)) W6.heap.size [.int .i64 (headM Q t mask j), .int .i64 0] by rw [hhy.out]; exact blk_new W6 (.int .i64 0) (.int .i64 0) 60)
        have hO8 := Lib.hid (hO6.kf (KF.of (l := []) ((Below.refl W6.heap.size W6).alloc (Nat.le_refl _) (.cells #[.int .i64 0, .int .i64 0] 60))) (fun q hq => by simp))
        have hszA := Lib.hid (show w.heap.size ≤ (W6.alloc (.cells #[.int .i64 0, .int .i64 0] 60)).heap.size by have := hB6.size; simp; omega)
        replace hB6 := Lib.hid hB6
        replace hO6 := Lib.hid hO6
        clear xb
        go_wp2_with (at_builtin; refine wpList_appH rfl _ _ rfl w.heap.size (.slice hv j hc) (headM Q t mask) j (by rfl) hO8.out hszA.out (by rfl) hbk.out (by omega) ?_; intro a5 n5 c5 w5 hown5 hn5 hsz5 hgrow5 hor5; obtain rfl : n5 = j + 1 := hn5; have hown5 := Lib.hid hown5; have hgrow5 := Lib.hid hgrow5; clear hor5 hsz5 hbk hO8 q0 q1)
        go_roundw
        case rel => exact ⟨j + 1, a5, c5, rfl, by go_num, hjl, hown5, Lib.hid ((hB6.out.alloc hB6.out.size _).grown hgrow5.out hszA.out (fun q hq => (hO6.out.lt hq).1))⟩
        case measure => simp [intOf]; omega
    · obtain rfl : j = N := by omega
      obtain ⟨hg3, rfl, hgb, TH⟩ := hO.out.tags (by omega)
      have hpk := Lib.hid (fpick_ok (hd.out.bel hB.out) H.out hM hg3 0 hc (headM Q t mask) nz TH (by omega) (by omega) (headM_ok hg.out t mask))
      have hwl := hB.out.size
      have THH := Lib.hid TH
      have hK0 := Lib.hid (KF.of (l := [f, lb]) hB.out)
      have hk0 : RowKit.Hid ((pickX j (headM Q t mask) (toldN j ALL x.V W x.Z x.D x.S x.F (headM Q t mask))).ok = true → ∃ k : Nat, (pickX j (headM Q t mask) (toldN j ALL x.V W x.Z x.D x.S x.F (headM Q t mask))).k = (k : Int) ∧ k < j) := Lib.hid (fun e => by
        generalize toldN j ALL x.V W x.Z x.D x.S x.F (headM Q t mask) = y at e ⊢
        unfold pickX at e ⊢
        by_cases hno : leastK y.S (rdy (headM Q t mask)) j < 0
        · rw [if_pos hno] at e; cases e
        · rw [if_neg hno]
          obtain ⟨kn, hkn, hkN, _, _⟩ := pick_some (F := y.F) (V := y.V) hno
          exact ⟨kn, by simp only [hkn], hkN⟩)
      have hk1 : RowKit.Hid ((pickX j (headM Q t mask) (toldN j ALL x.V W x.Z x.D x.S x.F (headM Q t mask))).ok = false → (pickX j (headM Q t mask) (toldN j ALL x.V W x.Z x.D x.S x.F (headM Q t mask))).k = 0) := Lib.hid (fun e => by
        generalize toldN j ALL x.V W x.Z x.D x.S x.F (headM Q t mask) = y at e ⊢
        unfold pickX at e ⊢
        by_cases hno : leastK y.S (rdy (headM Q t mask)) j < 0
        · rw [if_pos hno]
        · rw [if_neg hno] at e; cases e)
      obtain ⟨p, hp⟩ : ∃ p, RowKit.Hid (pickX j (headM Q t mask) (toldN j ALL x.V W x.Z x.D x.S x.F (headM Q t mask)) = p) := ⟨_, Lib.hid rfl⟩
      rw [hp.out] at hpk hk0 hk1
      clear TH hO hB
      obtain ⟨pk, pok, px⟩ := p
      cases pok with
      | false =>
        obtain rfl : pk = 0 := hk1.out rfl
        go_wp2_with fail
        refine hpk.out.mono ?_
        rintro e w4 ⟨tb4, ct4, rfl, F4, ht4, k4⟩
        have hF := Lib.hid (show LPick ⟨0, false, px⟩ (headM Q t mask) tb f lb cl j ALL W w (.returned (.tuple #[.int .i64 0, .int .i64 0, .bool false])) w4 from ⟨tb4, ct4, rfl, F4, ht4.elim .inl (fun q => .inr (by omega)), hK0.out.trans k4⟩)
        clear F4 ht4 k4 hpk
        go_wp2_with fail
        refine bodyPost_ret (v := .tuple #[.int .i64 0, .int .i64 0, .bool false]) (by simp [results, Try.results12, go_sem]) rfl ?_
        rw [hp.out]
        exact hF.out
      | true =>
        obtain ⟨k, hkk, hkN⟩ := hk0.out rfl
        obtain rfl : pk = (k : Int) := hkk
        go_wp2_with fail
        refine hpk.out.mono ?_
        rintro e w4 ⟨tb4, ct4, rfl, F4, ht4, k4⟩
        have x0 := (k4.tags THH.out (fun _ => by simp; omega)).c0 k hkN
        have hkz : (k : Int) < (j : Int) := by omega
        rw [Nat.zero_add] at x0
        have hF := Lib.hid (show ∀ nq, LPick ⟨(k : Int), true, px⟩ (headM Q t mask) tb f lb cl j ALL W w (.returned (.tuple #[.int .i64 k, .int .i64 (headM Q t mask k), .bool true])) (w4.drewN nq) from fun nq => ⟨tb4, ct4, rfl, F4.bel (bDrew (Below.refl _ _) nq), ht4.elim .inl (fun q => .inr (by omega)), (hK0.out.trans k4).trans (KF.of (bDrew (Below.refl _ _) nq))⟩)
        clear F4 ht4 k4 hpk THH
        go_upto_region 12 with fail
        go_big_quiet (fail)
        go_wp2_with fail
        refine bodyPost_ret (v := .tuple #[.int .i64 k, .int .i64 (headM Q t mask k), .bool true]) (by simp [results, Try.results12, go_sem]) rfl ?_
        rw [hp.out]
        exact hF.out nq
end Go.Proofs.Ytbbcongfaoopcaa
namespace Go.Proofs.Ytbbcongfaoopcaa
open Go.ChangeShapes Go.WideShapes Go.ChangeAt Go.RowKit Go.Maps
set_option linter.unusedVariables false
set_option linter.unusedSimpArgs false
open BigFrame Pk Fq Vr Fa Fb

namespace Fb
theorem mul_bd {a b A B : Int} (h1 : -A ≤ a) (h2 : a ≤ A) (h3 : 0 ≤ b) (h4 : b ≤ B) (hA : 0 ≤ A) : -(A * B) ≤ a * b ∧ a * b ≤ A * B := by
  have e1 : a * b ≤ A * b := Int.mul_le_mul_of_nonneg_right h2 h3
  have e2 : A * b ≤ A * B := Int.mul_le_mul_of_nonneg_left h4 hA
  have e3 : -A * b ≤ a * b := Int.mul_le_mul_of_nonneg_right h1 h3
  rw [Int.neg_mul] at e3
  omega
end Fb

set_option maxRecDepth 100000 in
set_option maxHeartbeats 8000000 in
theorem holds_c (w : World) (mbk mo mc abk ao ac n fr : Nat) (dm da : Nat → Int) (W ALL own most : Int) (hm : ∀ i, i ≤ n → w.cell? ⟨mbk, mo + i, none⟩ = some (.int .i64 (dm i))) (ha : ∀ i, i ≤ n → w.cell? ⟨abk, ao + i, none⟩ = some (.int .i64 (da i)))
    (hml : mbk < w.heap.size) (hal : abk < w.heap.size) (hn : n ≤ 1000) (hb1 : ∀ i, i ≤ n → 0 ≤ dm i ∧ dm i ≤ 1000000) (hb2 : ∀ i, i ≤ n → 0 ≤ da i ∧ da i ≤ 1000000) (hW : 1 ≤ W ∧ W ≤ 16) (hA : 1 ≤ ALL ∧ ALL ≤ 128) (ho : 0 ≤ own ∧ own ≤ 1500) (hs : 0 ≤ most ∧ most ≤ 1500)
    (hok : ∀ k, fr ≤ k → k < n → W * (da n - da k) - (2 * own * ALL + (most - 2 * own) * W) ≤ (dm n - dm k) * ALL) :
    Calls Try.prog 13 #[.agg #[.slice (some ⟨mbk, mo, none⟩) (n + 1) mc, .slice (some ⟨abk, ao, none⟩) (n + 1) ac, .int .i64 (fr : Nat)], .int .i64 W, .int .i64 ALL, .int .i64 own, .int .i64 most] w fun e w' => e = .returned (.bool true) ∧ Below w.heap.size w w' := by
  have hB0 := (Below.refl w.heap.size w).alloc (Nat.le_refl _) (.cells #[.slice (some ⟨mbk, mo, none⟩) (n + 1) mc, .slice (some ⟨abk, ao, none⟩) (n + 1) ac, .int .i64 (fr : Nat)] 34)
  have bx := blkN_new w [.slice (some ⟨mbk, mo, none⟩) (n + 1) mc, .slice (some ⟨abk, ao, none⟩) (n + 1) ac, .int .i64 (fr : Nat)] 34
  replace hm := Lib.hid hm
  replace ha := Lib.hid ha
  replace hb1 := Lib.hid hb1
  replace hb2 := Lib.hid hb2
  replace hok := Lib.hid hok
  obtain ⟨hW1, hW2⟩ := hW
  obtain ⟨hA1, hA2⟩ := hA
  obtain ⟨ho1, ho2⟩ := ho
  obtain ⟨hs1, hs2⟩ := hs
  have hnz : (n : Int) ≤ 1000 := by omega
  go_enter Try.func13, Try.ntmps13
  go_upto_region 1 with fail
  generalize hW0 : w.alloc (.cells #[.slice (some ⟨mbk, mo, none⟩) (n + 1) mc, .slice (some ⟨abk, ao, none⟩) (n + 1) ac, .int .i64 (fr : Nat)] 34) = W1
  replace bx : Blk W1 w.heap.size [.slice (some ⟨mbk, mo, none⟩) (n + 1) mc, .slice (some ⟨abk, ao, none⟩) (n + 1) ac, .int .i64 (fr : Nat)] := by rw [← hW0]; exact bx
  rw [hW0] at hB0
  clear hW0
  obtain ⟨q, hq⟩ : ∃ q, RowKit.Hid (w.heap.size = q) := ⟨_, Lib.hid rfl⟩
  rw [hq.out] at bx ⊢
  have p1 := bx.c 1 _ rfl
  have p2 := bx.c 2 _ rfl
  replace bx := Lib.hid bx
  replace hB0 := Lib.hid hB0
  go_wp2_with fail
  go_loopw [10, 12, 13, 14] (fun _ s12 _ _ wr => ∃ kk : Nat, fr ≤ kk ∧ s12 = .int .i64 (kk : Nat) ∧ RowKit.Hid (Below W1.heap.size W1 wr)) (fun _ s12 _ _ _ => n - (intOf s12).toNat)
  case atStart => exact ⟨fr, Nat.le_refl _, rfl, Lib.hid (Below.refl _ _)⟩
  case round =>
    obtain ⟨kk, hkk, rfl, hBr⟩ := hrel
    have hBw := Lib.hid (bNext hB0.out hBr.out (Nat.le_refl _))
    by_cases hlt : kk < n
    · have hltz : (kk : Int) < (n : Int) := by omega
      have g0 := (bx.out.bel hBr.out).c 0 _ rfl
      have g1 := (bx.out.bel hBr.out).c 1 _ rfl
      have x1 := (hBw.out.cell (p := ⟨mbk, mo + n, none⟩) hml).trans (hm.out n (Nat.le_refl _))
      have x2 := (hBw.out.cell (p := ⟨mbk, mo + kk, none⟩) hml).trans (hm.out kk (by omega))
      have y1 := (hBw.out.cell (p := ⟨abk, ao + n, none⟩) hal).trans (ha.out n (Nat.le_refl _))
      have y2 := (hBw.out.cell (p := ⟨abk, ao + kk, none⟩) hal).trans (ha.out kk (by omega))
      obtain ⟨b1, b2⟩ := hb1.out n (Nat.le_refl _)
      obtain ⟨b3, b4⟩ := hb1.out kk (by omega)
      obtain ⟨b5, b6⟩ := hb2.out n (Nat.le_refl _)
      obtain ⟨b7, b8⟩ := hb2.out kk (by omega)
      have hk := hok.out kk hkk hlt
      obtain ⟨M1, e1⟩ : ∃ z, dm n = z := ⟨_, rfl⟩
      obtain ⟨M2, e2⟩ : ∃ z, dm kk = z := ⟨_, rfl⟩
      obtain ⟨A1, e3⟩ : ∃ z, da n = z := ⟨_, rfl⟩
      obtain ⟨A2, e4⟩ : ∃ z, da kk = z := ⟨_, rfl⟩
      rw [e1] at x1 b1 b2 hk
      rw [e2] at x2 b3 b4 hk
      rw [e3] at y1 b5 b6 hk
      rw [e4] at y2 b7 b8 hk
      clear e1 e2 e3 e4
      have k1 := mul_bd (a := M1 - M2) (b := ALL) (A := 1000000) (B := 128) (by omega) (by omega) (by omega) hA2 (by omega)
      have k2 := mul_bd (a := A1 - A2) (b := W) (A := 1000000) (B := 16) (by omega) (by omega) (by omega) hW2 (by omega)
      have k3 := mul_bd (a := 2 * own) (b := ALL) (A := 3000) (B := 128) (by omega) (by omega) (by omega) hA2 (by omega)
      have k4 := mul_bd (a := most - 2 * own) (b := W) (A := 3000) (B := 16) (by omega) (by omega) (by omega) hW2 (by omega)
      rw [Int.mul_comm (A1 - A2) W] at k2
      have s1 : IntKind.i64.wrap (M1 - M2) = M1 - M2 := IntWalk.i64_in _ (by omega)
      have s2 : IntKind.i64.wrap (A1 - A2) = A1 - A2 := IntWalk.i64_in _ (by omega)
      have s3 : IntKind.i64.wrap ((M1 - M2) * ALL) = (M1 - M2) * ALL := IntWalk.i64_in _ (by omega)
      have s4 : IntKind.i64.wrap (W * (A1 - A2)) = W * (A1 - A2) := IntWalk.i64_in _ (by omega)
      have s5 : IntKind.i64.wrap (2 * own) = 2 * own := IntWalk.i64_in _ (by omega)
      have s6 : IntKind.i64.wrap (2 * own * ALL) = 2 * own * ALL := IntWalk.i64_in _ (by omega)
      have s7 : IntKind.i64.wrap (most - 2 * own) = most - 2 * own := IntWalk.i64_in _ (by omega)
      have s8 : IntKind.i64.wrap ((most - 2 * own) * W) = (most - 2 * own) * W := IntWalk.i64_in _ (by omega)
      have s9 : IntKind.i64.wrap (2 * own * ALL + (most - 2 * own) * W) = 2 * own * ALL + (most - 2 * own) * W := IntWalk.i64_in _ (by omega)
      have s10 : IntKind.i64.wrap (W * (A1 - A2) - (2 * own * ALL + (most - 2 * own) * W)) = W * (A1 - A2) - (2 * own * ALL + (most - 2 * own) * W) := IntWalk.i64_in _ (by omega)
      have hk2 : ¬ (M1 - M2) * ALL < W * (A1 - A2) - (2 * own * ALL + (most - 2 * own) * W) := by omega
      clear k1 k2 k3 k4 hk
      go_wp2_with fail
      go_big_quiet (fail)
      go_wp2_with fail
      go_roundw
      case rel => exact ⟨kk + 1, by omega, by go_num, Lib.hid (bDrew hBr.out nq)⟩
      case measure => simp [intOf]; omega
    · have hltz : ¬ (kk : Int) < (n : Int) := by omega
      go_wp2_with fail
      exact bodyPost_ret (v := .bool true) (by simp [results, Try.results13, go_sem]) rfl ⟨rfl, hBw.out⟩
end Go.Proofs.Ytbbcongfaoopcaa
namespace Go.Proofs.Ytbbcongfaoopcaa
open Go.ChangeShapes Go.WideShapes Go.ChangeAt Go.RowKit Go.Maps
set_option linter.unusedVariables false
set_option linter.unusedSimpArgs false
open BigFrame Pk Fq Vr Fa Fb

namespace Fb
/-- What holds ahead of a pick. -/
structure BP (N fl : Nat) (ALL most own : Int) (W : Nat → Int) (Q : Nat → List Int) (x : Sched) (t : Nat → Nat) (fr n : Nat) (dm da : Nat → Int) : Prop where
  bi : BI N ALL 720720 most own fl W x
  st : ∀ i, i < N → 0 < x.Z i → x.D i = false → x.Z i = headsQ Q t i
  tl : ∀ i, i < N → t i ≤ (Q i).length
  fn : fr ≤ n
  rd : fr < n → 0 < x.Z fl
  qk : ∀ k, fr ≤ k → k < n → Qk (W fl) ALL own (da n - da k) (dm n - dm k) x.V (nx (x.Z fl) (x.D fl) (x.S fl) (x.F fl))
  b1 : ∀ i, i ≤ n → 0 ≤ dm i ∧ dm i ≤ 1500 * i
  b2 : ∀ i, i ≤ n → 0 ≤ da i ∧ da i ≤ 1500 * i
/-- What is added to a row. -/
def put (d : Nat → Int) (n : Nat) (m : Int) : Nat → Int := fun i => if i = n + 1 then d n + m else d i
theorem put_new (d : Nat → Int) (n : Nat) (m : Int) : put d n m (n + 1) = d n + m := if_pos rfl
theorem put_old (d : Nat → Int) {n i : Nat} (m : Int) (h : i ≤ n) : put d n m i = d i := if_neg (by omega)
theorem put_bd {d : Nat → Int} {n : Nat} {m : Int} (h : ∀ i, i ≤ n → 0 ≤ d i ∧ d i ≤ 1500 * (i : Int)) (h1 : 0 ≤ m) (h2 : m ≤ 1500) : ∀ i, i ≤ n + 1 → 0 ≤ put d n m i ∧ put d n m i ≤ 1500 * (i : Int) := fun i hi => by
  by_cases e : i = n + 1
  · subst e
    rw [put_new]
    have := h n (Nat.le_refl _)
    push_cast
    omega
  · rw [put_old d m (by omega)]
    exact h i (by omega)
/-- The good sizes, with the greatest ones. -/
def mostQ (Q : Nat → List Int) (N fl : Nat) (most own : Int) : Prop := (∀ i, i < N → ∀ x, x ∈ Q i → x ≤ most) ∧ ∀ x, x ∈ Q fl → x ≤ own
theorem headM_le {Q : Nat → List Int} {N fl : Nat} {most own : Int} (hq : mostQ Q N fl most own) (t : Nat → Nat) (mask : Int) (hm0 : 0 ≤ most) (ho0 : 0 ≤ own) : (∀ i, i < N → headM Q t mask i ≤ most) ∧ headM Q t mask fl ≤ own := by
  have key : ∀ (i : Nat) (b : Int), 0 ≤ b → (∀ x, x ∈ Q i → x ≤ b) → headM Q t mask i ≤ b := fun i b hb h => by
    unfold headM
    split
    · by_cases ht : t i < (Q i).length
      · unfold headsQ
        rw [List.getD_eq_getElem?_getD, List.getElem?_eq_getElem ht]
        exact h _ (List.getElem_mem ht)
      · rw [headsQ_out (by omega)]; exact hb
    · exact hb
  exact ⟨fun i hi => key i most hm0 (hq.1 i hi), key fl own ho0 hq.2⟩
theorem headM_pos {Q : Nat → List Int} {t : Nat → Nat} {mask : Int} {i : Nat} (h : 0 < headM Q t mask i) : mb mask i = true ∧ headM Q t mask i = headsQ Q t i ∧ t i < (Q i).length := by
  unfold headM at h ⊢
  split at h
  · rename_i hb
    refine ⟨hb, if_pos hb, Classical.byContradiction fun q => ?_⟩
    rw [headsQ_out (by omega)] at h
    omega
  · omega
section
variable {N fl : Nat} {ALL most own M : Int} {W : Nat → Int} {Q : Nat → List Int} {x : Sched} {t : Nat → Nat} {fr n : Nat} {dm da : Nat → Int} {mask : Int}
/-- No flow may go. -/
theorem BP.none (B : BP N fl ALL most own W Q x t fr n dm da) (H : Inv M ALL x.V N W x.Z x.D x.S x.F) (hA : sumW W N = ALL) (hf : fl < N) (hg : goodQ Q N) (hq : mostQ Q N fl most own) (hm0 : 0 ≤ most) (ho0 : 0 ≤ own)
    (hno : ∀ i, i < N → ¬ 0 < headM Q t mask i) : pickX N (headM Q t mask) (toldN N ALL x.V W x.Z x.D x.S x.F (headM Q t mask)) = ⟨0, false, toldN N ALL x.V W x.Z x.D x.S x.F (headM Q t mask)⟩ ∧
      BP N fl ALL most own W Q (toldN N ALL x.V W x.Z x.D x.S x.F (headM Q t mask)) t n n dm da := by
  have hl := headM_le hq t mask hm0 ho0
  obtain ⟨b1, b2, b3⟩ := B.bi.told H hA hf (headM_ok hg t mask) hl.1 hl.2 hm0 ho0
  refine ⟨?_, b1, fun i hi hz _ => ?_, B.tl, Nat.le_refl _, fun h => absurd h (Nat.lt_irrefl _), fun k h1 h2 => by omega, B.b1, B.b2⟩
  · unfold pickX
    rw [if_pos]
    refine Classical.byContradiction fun q => ?_
    have h1 := leastK_yes (O := (toldN N ALL x.V W x.Z x.D x.S x.F (headM Q t mask)).S) (m := rdy (headM Q t mask)) (n := N) (by omega)
    have h2 := (leastK_lt (toldN N ALL x.V W x.Z x.D x.S x.F (headM Q t mask)).S (rdy (headM Q t mask)) N).2
    exact hno (leastK (toldN N ALL x.V W x.Z x.D x.S x.F (headM Q t mask)).S (rdy (headM Q t mask)) N).toNat (by omega) (by simpa [rdy] using h1.1)
  · rw [b3 i hi] at hz
    exact absurd hz (hno i hi)
/-- Some flow goes. -/
theorem BP.some (B : BP N fl ALL most own W Q x t fr n dm da) (H : Inv M ALL x.V N W x.Z x.D x.S x.F) (hA : sumW W N = ALL) (hf : fl < N) (hg : goodQ Q N) (hq : mostQ Q N fl most own) (hm0 : 0 ≤ most) (ho0 : 0 ≤ own) (ho1 : own ≤ 1500) (hm1 : most ≤ 1500)
    (hex : ∃ i, i < N ∧ 0 < headM Q t mask i) :
    ∃ (k : Nat) (px : Sched), pickX N (headM Q t mask) (toldN N ALL x.V W x.Z x.D x.S x.F (headM Q t mask)) = ⟨(k : Int), true, px⟩ ∧ k < N ∧ 0 < headM Q t mask k ∧ headM Q t mask k ≤ 1500 ∧ t k < (Q k).length ∧
      (¬ 0 < headM Q t mask fl → BP N fl ALL most own W Q px (upn t k (t k + 1)) (n + 1) (n + 1) (put dm n (if k = fl then headM Q t mask k else 0)) (put da n (headM Q t mask k))) ∧
      (0 < headM Q t mask fl → BP N fl ALL most own W Q px (upn t k (t k + 1)) fr (n + 1) (put dm n (if k = fl then headM Q t mask k else 0)) (put da n (headM Q t mask k)) ∧
        ∀ j, fr ≤ j → j < n + 1 → W fl * (put da n (headM Q t mask k) (n + 1) - put da n (headM Q t mask k) j) - (2 * own * ALL + (most - 2 * own) * W fl) ≤ (put dm n (if k = fl then headM Q t mask k else 0) (n + 1) - put dm n (if k = fl then headM Q t mask k else 0) j) * ALL) := by
  have hl := headM_le hq t mask hm0 ho0
  obtain ⟨b1, b2, b3⟩ := B.bi.told H hA hf (headM_ok hg t mask) hl.1 hl.2 hm0 ho0
  have hW : ∀ i, i < N → 1 ≤ W i ∧ W i ≤ ALL := fun i hi => ⟨(H.w i hi).1, (H.w i hi).2.2⟩
  have S := pick_yes (y := toldN N ALL x.V W x.Z x.D x.S x.F (headM Q t mask)) hex
  have b4 := b1.pick b2 b3 hW hA hf hm0 ho0 S
  have S2 := S
  have hnx := fun (hr : 0 < headM Q t mask fl) => nx_pick b1 b2 b3 hf hr S2
  have hsame := fun (hz : 0 < x.Z fl) (hr : 0 < headM Q t mask fl) => nx_same (V := x.V) (z := x.Z fl) (n := headM Q t mask fl) (c := costI (headM Q t mask fl) (W fl) ALL) (s := x.S fl) (f := x.F fl) (d := x.D fl) hz hr (fun hd => (B.st fl hf hz hd).trans (headM_pos hr).2.1.symm)
  have eV : (toldN N ALL x.V W x.Z x.D x.S x.F (headM Q t mask)).V = x.V := rfl
  have eS : (toldN N ALL x.V W x.Z x.D x.S x.F (headM Q t mask)).S fl = hrS x.V (x.S fl) (x.F fl) (x.Z fl) (headM Q t mask fl) (costI (headM Q t mask fl) (W fl) ALL) (x.D fl) := mix_lt _ x.S hf
  have eF : (toldN N ALL x.V W x.Z x.D x.S x.F (headM Q t mask)).F fl = hrF x.V (x.S fl) (x.F fl) (x.Z fl) (headM Q t mask fl) (costI (headM Q t mask fl) (W fl) ALL) (x.D fl) := mix_lt _ x.F hf
  generalize toldN N ALL x.V W x.Z x.D x.S x.F (headM Q t mask) = y at b1 b2 b3 S b4 S2 hnx eV eS eF ⊢
  obtain ⟨k, V1, hp, hk, hpos, hV1, _, _, _⟩ := S
  rw [hp] at b4 hnx ⊢
  have hkt := headM_pos hpos
  have hk1 : headM Q t mask k ≤ 1500 := by have := hl.1 k hk; omega
  have hst : ∀ i, i < N → 0 < y.Z i → upb y.D k true i = false → y.Z i = headsQ Q (upn t k (t k + 1)) i := fun i hi hz hd => by
    by_cases e : i = k
    · subst e; simp [upb] at hd
    · rw [b3 i hi] at hz ⊢
      have := headM_pos hz
      rw [this.2.1]
      unfold headsQ
      rw [show upn t k (t k + 1) i = t i from if_neg e]
  have htl : ∀ i, i < N → upn t k (t k + 1) i ≤ (Q i).length := fun i hi => by
    unfold upn
    split
    · rename_i e; subst e; have := hkt.2.2; omega
    · exact B.tl i hi
  have hmi : 0 ≤ (if k = fl then headM Q t mask k else 0) ∧ (if k = fl then headM Q t mask k else 0) ≤ 1500 := by split <;> omega
  refine ⟨k, _, rfl, hk, hpos, hk1, hkt.2.2, fun hnr => ⟨b4, hst, htl, Nat.le_refl _, fun h => absurd h (Nat.lt_irrefl _), fun j h1 h2 => by omega, put_bd B.b1 hmi.1 hmi.2, put_bd B.b2 (by omega) hk1⟩, fun hr => ?_⟩
  obtain ⟨k', e1, _, _, _, hV, _, _, hT⟩ := hnx hr
  obtain rfl : k' = k := by have : ((k : Nat) : Int) = (k' : Int) := e1; omega
  have hzf : 0 < y.Z fl := by rw [b3 fl hf]; exact hr
  have hwf : 0 ≤ W fl := by have := hW fl hf; omega
  have hfar := b1.far hW hf hzf
  have hfar2 := b4.far hW hf hzf
  have hQ : ∀ j, fr ≤ j → j < n + 1 → Qk (W fl) ALL own (put da n (headM Q t mask k') (n + 1) - put da n (headM Q t mask k') j) (put dm n (if k' = fl then headM Q t mask k' else 0) (n + 1) - put dm n (if k' = fl then headM Q t mask k' else 0) j) (V1 + headM Q t mask k' * 720720) (nx (y.Z fl) (upb y.D k' true fl) (y.S fl) (y.F fl)) := fun j h1 h2 => by
    rw [put_new, put_new, put_old da _ (by omega), put_old dm _ (by omega)]
    by_cases e : j = n
    · subst e
      rw [show da j + headM Q t mask k' - da j = headM Q t mask k' by omega, show dm j + (if k' = fl then headM Q t mask k' else 0) - dm j = (if k' = fl then headM Q t mask k' else 0) by omega]
      exact Qk.new hfar.2 hwf hV hT
    · have hz := B.rd (by omega)
      have h3 := B.qk j h1 (by omega)
      have h4 : nx (x.Z fl) (x.D fl) (x.S fl) (x.F fl) = nx (y.Z fl) (y.D fl) (y.S fl) (y.F fl) := by
        rw [b3 fl hf, b2 fl hf, eS, eF]; exact (hsame hz hr).symm
      rw [h4, ← eV] at h3
      have := h3.step hwf hV hT
      rw [show da n + headM Q t mask k' - da j = da n - da j + headM Q t mask k' by omega, show dm n + (if k' = fl then headM Q t mask k' else 0) - dm j = dm n - dm j + (if k' = fl then headM Q t mask k' else 0) by omega]
      exact this
  refine ⟨⟨b4, hst, htl, by have := B.fn; omega, fun _ => hzf, hQ, put_bd B.b1 hmi.1 hmi.2, put_bd B.b2 (by omega) hk1⟩, fun j h1 h2 => (hQ j h1 h2).holds hfar2.1⟩
end
end Fb
end Go.Proofs.Ytbbcongfaoopcaa
namespace Go.Proofs.Ytbbcongfaoopcaa
open Go.ChangeShapes Go.WideShapes Go.ChangeAt Go.RowKit Go.Maps
set_option linter.unusedVariables false
set_option linter.unusedSimpArgs false
open BigFrame Pk Fq Vr Fa Fb

namespace Fb
/-- Where the law stands, in memory. -/
structure BW (w wr : World) (f lb cl tb ct N : Nat) (ALL : Int) (W : Nat → Int) (x : Sched) (ab : Nat) (t : Nat → Nat) (sb nM nA fr : Nat) (dm da : Nat → Int) (mv : Option Addr) (mc : Nat) (av : Option Addr) (ac : Nat) : Prop where
  fd : FD wr f lb cl tb ct N ALL x.V W x.Z x.D x.S x.F
  at_ : Blk wr ab (iC (tI t) N)
  box : Blk wr sb [.slice mv (nM + 1) mc, .slice av (nA + 1) ac, .int .i64 (fr : Nat)]
  om : OwnI wr w.heap.size (.slice mv (nM + 1) mc) dm (nM + 1)
  oa : OwnI wr w.heap.size (.slice av (nA + 1) ac) da (nA + 1)
  bel : Below w.heap.size w wr
  ge : w.heap.size ≤ f ∧ w.heap.size ≤ lb ∧ w.heap.size ≤ tb ∧ w.heap.size ≤ ab ∧ w.heap.size ≤ sb
  s1 : ab ≠ f ∧ ab ≠ lb ∧ ab ≠ tb ∧ sb ≠ f ∧ sb ≠ lb ∧ sb ≠ tb ∧ ab ≠ sb
  s2 : ∀ q, (Value.slice mv (nM + 1) mc).ownBlock = some q → q ≠ f ∧ q ≠ lb ∧ q ≠ tb ∧ q ≠ ab ∧ q ≠ sb ∧ (Value.slice av (nA + 1) ac).ownBlock ≠ some q
  s3 : ∀ q, (Value.slice av (nA + 1) ac).ownBlock = some q → q ≠ f ∧ q ≠ lb ∧ q ≠ tb ∧ q ≠ ab ∧ q ≠ sb
theorem own_lit (w : World) (B : Nat) (hB : B ≤ w.heap.size) : OwnI (w.alloc (.cells #[.int .i64 0] 3)) B (.slice (some ⟨w.heap.size, 0, none⟩) 1 1) (fun _ => 0) 1 := World.ownsRow_lit (base := B) (e := 3) (size := 1) w #[.int .i64 0] 1 hB (by unfold maxLen; omega) (by rfl)
theorem iC_congr {R R2 : Nat → Int} : ∀ n, (∀ i, i < n → R i = R2 i) → iC R n = iC R2 n
  | 0, _ => rfl
  | n + 1, h => by rw [iC_succ, iC_succ, iC_congr n (fun i hi => h i (by omega)), h n (by omega)]
theorem OwnI.congr {w : World} {B : Nat} {v : Value} {R R2 : Nat → Int} {n : Nat} (h : OwnI w B v R n) (e : ∀ i, i < n → R i = R2 i) : OwnI w B v R2 n := by
  unfold OwnI at h ⊢
  rw [← iC_congr n e]
  exact h
variable {w wr w' : World} {f lb cl tb ct N : Nat} {ALL : Int} {W : Nat → Int} {x : Sched} {ab : Nat} {t : Nat → Nat} {sb nM nA fr : Nat} {dm da : Nat → Int} {mv : Option Addr} {mc : Nat} {av : Option Addr} {ac : Nat}
theorem BW.kf (h : BW w wr f lb cl tb ct N ALL W x ab t sb nM nA fr dm da mv mc av ac) (k : KF [] wr w') (hb : Below w.heap.size w w') : BW w w' f lb cl tb ct N ALL W x ab t sb nM nA fr dm da mv mc av ac :=
  ⟨k.fd h.fd (by simp) (by simp) (by simp), k.blk h.at_ (by simp), k.blk h.box (by simp), h.om.kf k (fun q _ => by simp), h.oa.kf k (fun q _ => by simp), hb, h.ge, h.s1, h.s2, h.s3⟩
theorem BW.below (h : BW w wr f lb cl tb ct N ALL W x ab t sb nM nA fr dm da mv mc av ac) (k : Below wr.heap.size wr w') : BW w w' f lb cl tb ct N ALL W x ab t sb nM nA fr dm da mv mc av ac :=
  h.kf (KF.of k) (h.bel.trans (k.mono h.bel.size))
theorem BW.pick {px : Sched} {tb4 ct4 : Nat} (h : BW w wr f lb cl tb ct N ALL W x ab t sb nM nA fr dm da mv mc av ac) (F : FD w' f lb cl tb4 ct4 N ALL px.V W px.Z px.D px.S px.F) (ht : tb4 = tb ∨ wr.heap.size ≤ tb4) (k : KF [f, lb] wr w') : BW w w' f lb cl tb4 ct4 N ALL W px ab t sb nM nA fr dm da mv mc av ac := by
  have g := h.ge
  have s := h.s1
  have hal := h.at_.l
  have hsl := h.box.l
  have hs := h.bel.size
  have ht2 : w.heap.size ≤ tb4 ∧ ab ≠ tb4 ∧ sb ≠ tb4 := by
    rcases ht with e | e
    · rw [e]; exact ⟨g.2.2.1, s.2.2.1, s.2.2.2.2.2.1⟩
    · exact ⟨by omega, by omega, by omega⟩
  refine ⟨F, k.blk h.at_ (by simp; omega), k.blk h.box (by simp; omega), h.om.kf k (fun q e => by have := h.s2 q e; simp; omega), h.oa.kf k (fun q e => by have := h.s3 q e; simp; omega), h.bel.trans (k.below (fun q hq => by simp at hq; omega) hs), ⟨g.1, g.2.1, ht2.1, g.2.2.2.1, g.2.2.2.2⟩, ⟨s.1, s.2.1, ht2.2.1, s.2.2.2.1, s.2.2.2.2.1, ht2.2.2, s.2.2.2.2.2.2⟩, fun q e => ?_, fun q e => ?_⟩
  · have h1 := h.s2 q e
    have h2 := (h.om.lt e).2
    exact ⟨h1.1, h1.2.1, by rcases ht with e2 | e2; rw [e2]; exact h1.2.2.1; omega, h1.2.2.2.1, h1.2.2.2.2.1, h1.2.2.2.2.2⟩
  · have h1 := h.s3 q e
    have h2 := (h.oa.lt e).2
    exact ⟨h1.1, h1.2.1, by rcases ht with e2 | e2; rw [e2]; exact h1.2.2.1; omega, h1.2.2.2.1, h1.2.2.2.2⟩
theorem kset1 {u : World} {b o : Nat} (v : Value) : KF [b] u (u.setCell ⟨b, o, none⟩ v) := (KF.refl [b] u).set (p := ⟨b, o, none⟩) (.inl (by simp)) v
theorem BW.setAt {k : Nat} (h : BW w wr f lb cl tb ct N ALL W x ab t sb nM nA fr dm da mv mc av ac) (hk : k < N) : BW w (wr.setCell ⟨ab, k, none⟩ (.int .i64 (((t k : Nat) : Int) + 1))) f lb cl tb ct N ALL W x ab (upn t k (t k + 1)) sb nM nA fr dm da mv mc av ac := by
  have s := h.s1
  have K : KF [ab] wr (wr.setCell ⟨ab, k, none⟩ (.int .i64 (((t k : Nat) : Int) + 1))) := kset1 _
  refine ⟨K.fd h.fd (by simp; omega) (by simp; omega) (by simp; omega), ?_, K.blk h.box (by simp; omega), h.om.kf K (fun q e => by have := h.s2 q e; simp; omega), h.oa.kf K (fun q e => by have := h.s3 q e; simp; omega), h.bel.setCell (p := ⟨ab, k, none⟩) (show w.heap.size ≤ ab from h.ge.2.2.2.1) _, h.ge, s, h.s2, h.s3⟩
  rw [← tI_up, ← iC_set]
  exact h.at_.set (by rw [iC_len]; exact hk) _
theorem BW.setFr (h : BW w wr f lb cl tb ct N ALL W x ab t sb nM nA fr dm da mv mc av ac) (fr2 : Nat) : BW w (wr.setCell ⟨sb, 2, none⟩ (.int .i64 (fr2 : Nat))) f lb cl tb ct N ALL W x ab t sb nM nA fr2 dm da mv mc av ac := by
  have s := h.s1
  have K : KF [sb] wr (wr.setCell ⟨sb, 2, none⟩ (.int .i64 (fr2 : Nat))) := kset1 _
  exact ⟨K.fd h.fd (by simp; omega) (by simp; omega) (by simp; omega), K.blk h.at_ (by simp; omega), h.box.set (i := 2) (by simp) _, h.om.kf K (fun q e => by have := h.s2 q e; simp; omega), h.oa.kf K (fun q e => by have := h.s3 q e; simp; omega), h.bel.setCell (p := ⟨sb, 2, none⟩) (show w.heap.size ≤ sb from h.ge.2.2.2.2) _, h.ge, s, h.s2, h.s3⟩
theorem BW.appM {m : Int} (h : BW w wr f lb cl tb ct N ALL W x ab t sb nM nA fr dm da mv mc av ac) {w5 : World} {a5 : Option Addr} {c5 : Nat} (ho : OwnI w5 w.heap.size (.slice a5 (nM + 1 + 1) c5) (put dm nM m) (nM + 1 + 1)) (g : wr.grownBy w5 (Value.slice mv (nM + 1) mc).ownBlock)
    (hor : (Value.slice a5 (nM + 1 + 1) c5).ownBlock = (Value.slice mv (nM + 1) mc).ownBlock ∨ (Value.slice a5 (nM + 1 + 1) c5).ownBlock = some wr.heap.size) : BW w (w5.setCell ⟨sb, 0, none⟩ (.slice a5 (nM + 1 + 1) c5)) f lb cl tb ct N ALL W x ab t sb (nM + 1) nA fr (put dm nM m) da a5 c5 av ac ∧ Blk w5 sb [.slice mv (nM + 1) mc, .slice av (nA + 1) ac, .int .i64 (fr : Nat)] := by
  have s := h.s1
  have K := grownK g
  have hm : ∀ z, z ∈ (Value.slice mv (nM + 1) mc).ownBlock.toList → (Value.slice mv (nM + 1) mc).ownBlock = some z := fun z hz => by simpa using hz
  have K2 : KF [sb] w5 (w5.setCell ⟨sb, 0, none⟩ (.slice a5 (nM + 1 + 1) c5)) := kset1 _
  have hfl := h.fd.b.l
  have hll := h.fd.l.l
  have htl := h.fd.tl
  have hal := h.at_.l
  have hsl := h.box.l
  have hnew : ∀ q, (Value.slice a5 (nM + 1 + 1) c5).ownBlock = some q → q ≠ f ∧ q ≠ lb ∧ q ≠ tb ∧ q ≠ ab ∧ q ≠ sb := fun q e => by
    rcases hor with e2 | e2
    · rw [e2] at e
      have := h.s2 q e
      exact ⟨this.1, this.2.1, this.2.2.1, this.2.2.2.1, this.2.2.2.2.1⟩
    · rw [e2] at e
      cases e
      exact ⟨by omega, by omega, by omega, by omega, by omega⟩
  have nf : ∀ z, z = f ∨ z = lb ∨ z = tb ∨ z = ab ∨ z = sb → z ∉ (Value.slice mv (nM + 1) mc).ownBlock.toList := fun z hz e => by
    have := h.s2 z (hm z e)
    omega
  have F5 := K.fd h.fd (nf f (.inl rfl)) (nf lb (.inr (.inl rfl))) (nf tb (.inr (.inr (.inl rfl))))
  have A5 := K.blk h.at_ (nf ab (.inr (.inr (.inr (.inl rfl)))))
  have B5 := K.blk h.box (nf sb (.inr (.inr (.inr (.inr rfl)))))
  have O5 : OwnI w5 w.heap.size (.slice av (nA + 1) ac) da (nA + 1) := h.oa.kf K (fun q e e2 => (h.s2 q (hm q e2)).2.2.2.2.2 e)
  have hbel : Below w.heap.size w w5 := h.bel.grown g h.bel.size (fun q e => (h.om.lt e).1)
  refine ⟨⟨K2.fd F5 (by simp; omega) (by simp; omega) (by simp; omega), K2.blk A5 (by simp; omega), B5.set (i := 0) (by simp) _, ?_, ?_, hbel.setCell (p := ⟨sb, 0, none⟩) (show w.heap.size ≤ sb from h.ge.2.2.2.2) _, h.ge, s, fun q e => ?_, fun q e => ?_⟩, B5⟩
  · exact ho.kf K2 (fun q e => by have := hnew q e; simp; omega)
  · exact O5.kf K2 (fun q e => by have := h.s3 q e; simp; omega)
  · have h1 := hnew q e
    refine ⟨h1.1, h1.2.1, h1.2.2.1, h1.2.2.2.1, h1.2.2.2.2, fun e3 => ?_⟩
    rcases hor with e2 | e2
    · rw [e2] at e; exact (h.s2 q e).2.2.2.2.2 e3
    · rw [e2] at e; cases e; have := (h.oa.lt e3).2; omega
  · exact h.s3 q e
theorem BW.appA {m : Int} (h : BW w wr f lb cl tb ct N ALL W x ab t sb nM nA fr dm da mv mc av ac) {w5 : World} {a5 : Option Addr} {c5 : Nat} (ho : OwnI w5 w.heap.size (.slice a5 (nA + 1 + 1) c5) (put da nA m) (nA + 1 + 1)) (g : wr.grownBy w5 (Value.slice av (nA + 1) ac).ownBlock)
    (hor : (Value.slice a5 (nA + 1 + 1) c5).ownBlock = (Value.slice av (nA + 1) ac).ownBlock ∨ (Value.slice a5 (nA + 1 + 1) c5).ownBlock = some wr.heap.size) : BW w (w5.setCell ⟨sb, 1, none⟩ (.slice a5 (nA + 1 + 1) c5)) f lb cl tb ct N ALL W x ab t sb nM (nA + 1) fr dm (put da nA m) mv mc a5 c5 ∧ Blk w5 sb [.slice mv (nM + 1) mc, .slice av (nA + 1) ac, .int .i64 (fr : Nat)] := by
  have s := h.s1
  have K := grownK g
  have hm : ∀ z, z ∈ (Value.slice av (nA + 1) ac).ownBlock.toList → (Value.slice av (nA + 1) ac).ownBlock = some z := fun z hz => by simpa using hz
  have K2 : KF [sb] w5 (w5.setCell ⟨sb, 1, none⟩ (.slice a5 (nA + 1 + 1) c5)) := kset1 _
  have hfl := h.fd.b.l
  have hll := h.fd.l.l
  have htl := h.fd.tl
  have hal := h.at_.l
  have hsl := h.box.l
  have hnew : ∀ q, (Value.slice a5 (nA + 1 + 1) c5).ownBlock = some q → q ≠ f ∧ q ≠ lb ∧ q ≠ tb ∧ q ≠ ab ∧ q ≠ sb := fun q e => by
    rcases hor with e2 | e2
    · rw [e2] at e
      have := h.s3 q e
      exact ⟨this.1, this.2.1, this.2.2.1, this.2.2.2.1, this.2.2.2.2⟩
    · rw [e2] at e
      cases e
      exact ⟨by omega, by omega, by omega, by omega, by omega⟩
  have nf : ∀ z, z = f ∨ z = lb ∨ z = tb ∨ z = ab ∨ z = sb → z ∉ (Value.slice av (nA + 1) ac).ownBlock.toList := fun z hz e => by
    have := h.s3 z (hm z e)
    omega
  have F5 := K.fd h.fd (nf f (.inl rfl)) (nf lb (.inr (.inl rfl))) (nf tb (.inr (.inr (.inl rfl))))
  have A5 := K.blk h.at_ (nf ab (.inr (.inr (.inr (.inl rfl)))))
  have B5 := K.blk h.box (nf sb (.inr (.inr (.inr (.inr rfl)))))
  have O5 : OwnI w5 w.heap.size (.slice mv (nM + 1) mc) dm (nM + 1) := h.om.kf K (fun q e e2 => (h.s2 q e).2.2.2.2.2 (hm q e2))
  have hbel : Below w.heap.size w w5 := h.bel.grown g h.bel.size (fun q e => (h.oa.lt e).1)
  refine ⟨⟨K2.fd F5 (by simp; omega) (by simp; omega) (by simp; omega), K2.blk A5 (by simp; omega), B5.set (i := 1) (by simp) _, ?_, ?_, hbel.setCell (p := ⟨sb, 1, none⟩) (show w.heap.size ≤ sb from h.ge.2.2.2.2) _, h.ge, s, fun q e => ?_, fun q e => ?_⟩, B5⟩
  · exact O5.kf K2 (fun q e => by have := h.s2 q e; simp; omega)
  · exact ho.kf K2 (fun q e => by have := hnew q e; simp; omega)
  · have h1 := h.s2 q e
    refine ⟨h1.1, h1.2.1, h1.2.2.1, h1.2.2.2.1, h1.2.2.2.2.1, fun e3 => ?_⟩
    rcases hor with e2 | e2
    · rw [e2] at e3; exact h1.2.2.2.2.2 e3
    · rw [e2] at e3; cases e3; have := (h.om.lt e).2; omega
  · exact hnew q e
end Fb
end Go.Proofs.Ytbbcongfaoopcaa
