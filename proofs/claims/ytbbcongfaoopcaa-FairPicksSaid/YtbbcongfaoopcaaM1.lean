/- The scheduler run over queues: plain. The scheduler run over queues: rows of ints, heads and queues. The scheduler run over queues: Run. The scheduler run over queues: Run refused; Run whatever it is given. The scheduler: rows of ints compared; the law's own examples. The scheduler: New whatever it is given; arguments opened; what is served, plain. The scheduler: every packet is served once. -/
import Derived.Test.YtbbcongfaoopcaaF17
import Derived.Test.YtbbcongfaoopcaaOpen3
namespace Go.Proofs.Ytbbcongfaoopcaa
open Go.ChangeShapes Go.WideShapes Go.ChangeAt Go.RowKit Go.Maps
set_option linter.unusedVariables false
set_option linter.unusedSimpArgs false
open BigFrame Pk Fq Vr Fa

namespace Fa
/-- By how much the times may go on at a pick. -/
def PM : Int := 139459320000
theorem Inv.pick {M ALL V : Int} {N : Nat} {W Z : Nat → Int} {D : Nat → Bool} {S F h : Nat → Int} (H : Inv M ALL V N W Z D S F) (hh : ∀ i, i < N → headBad (h i) = false) :
    Inv (M + PM) ALL (pickX N h (toldN N ALL V W Z D S F h)).x.V N W (pickX N h (toldN N ALL V W Z D S F h)).x.Z (pickX N h (toldN N ALL V W Z D S F h)).x.D (pickX N h (toldN N ALL V W Z D S F h)).x.S (pickX N h (toldN N ALL V W Z D S F h)).x.F := by
  have hI := H.told hh N
  have hZ : ∀ i, i < N → (toldN N ALL V W Z D S F h).Z i = h i := fun i hi => mix_lt h Z hi
  have hV : (toldN N ALL V W Z D S F h).V = V := rfl
  generalize hx : toldN N ALL V W Z D S F h = x at hI hZ hV ⊢
  unfold pickX
  by_cases hno : leastK x.S (rdy h) N < 0
  · rw [if_pos hno]
    exact ⟨by rw [hV]; exact hI.far.mono (by unfold CM PM; omega), hI.w, hI.all, hI.z, hI.d⟩
  · rw [if_neg hno]
    obtain ⟨kn, hkn, hkN, hkr, hkS⟩ := pick_some (F := x.F) (V := x.V) hno
    simp only [hkn, Int.toNat_natCast]
    have hpos : 0 < h kn := by simpa [rdy] using hkr
    have hle := (headOk (hh kn hkN)).2
    have h2 := hI.far.2.2 (leastK x.S (rdy h) N).toNat (by have := (leastK_lt x.S (rdy h) N).2; omega)
    have h3 := hI.far.1
    have h4 := hI.far.2.1
    rw [hV]
    refine ⟨⟨by omega, by unfold CM PM at *; omega, fun i hi => ?_⟩, hI.w, hI.all, hI.z, fun i hi hd => ?_⟩
    · have := hI.far.2.2 i hi
      unfold CM PM at *
      omega
    · unfold upb at hd
      by_cases e : i = kn
      · subst e; rw [hZ i hi]; exact hpos
      · rw [if_neg e] at hd; exact hI.d i hi hd
/-- Where the heads of queues are that went on so far. -/
def headsQ (Q : Nat → List Int) (t : Nat → Nat) : Nat → Int := fun i => (Q i).getD (t i) 0
def upn (t : Nat → Nat) (k x : Nat) : Nat → Nat := fun i => if i = k then x else t i
def stepX (N : Nat) (ALL : Int) (W : Nat → Int) (Q : Nat → List Int) (x : Sched) (t : Nat → Nat) : Picked := pickX N (headsQ Q t) (toldN N ALL x.V W x.Z x.D x.S x.F (headsQ Q t))
/-- Which flows are served, one by one. -/
def servedN (N : Nat) (ALL : Int) (W : Nat → Int) (Q : Nat → List Int) : Nat → Sched → (Nat → Nat) → List Int
  | 0, _, _ => []
  | m + 1, x, t => if (stepX N ALL W Q x t).ok = true then (stepX N ALL W Q x t).k :: servedN N ALL W Q m (stepX N ALL W Q x t).x (upn t (stepX N ALL W Q x t).k.toNat (t (stepX N ALL W Q x t).k.toNat + 1)) else []
def sched0 : Sched := ⟨0, nz, nd, nz, nz⟩
theorem inv0 {N : Nat} {W : Nat → Int} (h8 : N ≤ 8) (hW : ∀ i, i < N → 1 ≤ W i ∧ W i ≤ 16) : Inv 0 (sumW W N) 0 N W nz nd nz nz := by
  have h1 := sumW_b hW N (Nat.le_refl _)
  have hle : ∀ n, n ≤ N → ∀ i, i < n → W i ≤ sumW W n := by
    intro n
    induction n with
    | zero => intro _ i hi; omega
    | succ n ih =>
      intro hn i hi
      have h2 := ih (by omega)
      have h3 := sumW_b hW n (by omega)
      have h4 := hW n (by omega)
      simp only [sumW]
      by_cases e : i = n
      · subst e; omega
      · have := h2 i (by omega); omega
  exact ⟨⟨Int.le_refl _, Int.le_refl _, fun i _ => ⟨Int.le_refl _, Int.le_refl _, Int.le_refl _⟩⟩, fun i hi => ⟨(hW i hi).1, (hW i hi).2, hle N (Nat.le_refl _) i hi⟩, by omega, fun i _ => by simp [nz], fun i _ h => by simp [nd] at h⟩
/-- How many are left. -/
def leftQ (Q : Nat → List Int) (t : Nat → Nat) : Nat → Nat
  | 0 => 0
  | n + 1 => leftQ Q t n + ((Q n).length - t n)
theorem leftQ_same {Q : Nat → List Int} {t t' : Nat → Nat} : ∀ n, (∀ i, i < n → t i = t' i) → leftQ Q t n = leftQ Q t' n
  | 0, _ => rfl
  | n + 1, h => by simp only [leftQ]; rw [leftQ_same n (fun i hi => h i (by omega)), h n (by omega)]
theorem leftQ_step {Q : Nat → List Int} {t : Nat → Nat} {k : Nat} (hk : t k < (Q k).length) : ∀ n, k < n → leftQ Q (upn t k (t k + 1)) n + 1 = leftQ Q t n
  | 0, h => by omega
  | n + 1, h => by
    simp only [leftQ]
    by_cases e : k = n
    · subst e
      rw [leftQ_same (t' := t) k (fun i hi => by unfold upn; rw [if_neg (by omega)])]
      have e2 : upn t k (t k + 1) k = t k + 1 := if_pos rfl
      rw [e2]
      omega
    · have := leftQ_step hk n (by omega)
      have e2 : upn t k (t k + 1) n = t n := if_neg (fun q => e q.symm)
      rw [e2]
      omega
theorem leftQ_pos {Q : Nat → List Int} {t : Nat → Nat} : ∀ n, 0 < leftQ Q t n → ∃ i, i < n ∧ t i < (Q i).length
  | 0, h => by simp [leftQ] at h
  | n + 1, h => by
    simp only [leftQ] at h
    by_cases e : t n < (Q n).length
    · exact ⟨n, by omega, e⟩
    · obtain ⟨i, a, b⟩ := leftQ_pos (Q := Q) (t := t) n (by omega)
      exact ⟨i, by omega, b⟩
theorem leftQ_none {Q : Nat → List Int} {t : Nat → Nat} {n i : Nat} (h : leftQ Q t n = 0) (hi : i < n) : (Q i).length ≤ t i := by
  induction n with
  | zero => omega
  | succ n ih =>
    simp only [leftQ] at h
    by_cases e : i = n
    · subst e; omega
    · exact ih (by omega) (by omega)
/-- Good sizes. -/
def goodQ (Q : Nat → List Int) (N : Nat) : Prop := ∀ i, i < N → ∀ x, x ∈ Q i → 1 ≤ x ∧ x ≤ 1500
theorem headsQ_in {Q : Nat → List Int} {N : Nat} (hg : goodQ Q N) {t : Nat → Nat} {i : Nat} (hi : i < N) (ht : t i < (Q i).length) : 1 ≤ headsQ Q t i ∧ headsQ Q t i ≤ 1500 := by
  unfold headsQ
  rw [List.getD_eq_getElem?_getD, List.getElem?_eq_getElem ht]
  exact hg i hi _ (List.getElem_mem ht)
theorem headsQ_out {Q : Nat → List Int} {t : Nat → Nat} {i : Nat} (ht : (Q i).length ≤ t i) : headsQ Q t i = 0 := by
  unfold headsQ
  rw [List.getD_eq_getElem?_getD, List.getElem?_eq_none ht]
  rfl
theorem headsQ_ok {Q : Nat → List Int} {N : Nat} (hg : goodQ Q N) (t : Nat → Nat) : ∀ i, i < N → headBad (headsQ Q t i) = false := fun i hi => by
  unfold headBad
  by_cases ht : t i < (Q i).length
  · have := headsQ_in hg hi ht
    simp; omega
  · rw [headsQ_out (by omega)]; simp
/-- What is picked is ready. -/
theorem stepX_yes {N : Nat} {ALL : Int} {W : Nat → Int} {Q : Nat → List Int} {x : Sched} {t : Nat → Nat} (hg : goodQ Q N) (h : (stepX N ALL W Q x t).ok = true) : ∃ k : Nat, (stepX N ALL W Q x t).k = (k : Int) ∧ k < N ∧ t k < (Q k).length := by
  unfold stepX at h ⊢
  generalize toldN N ALL x.V W x.Z x.D x.S x.F (headsQ Q t) = y at h ⊢
  unfold pickX at h ⊢
  by_cases hno : leastK y.S (rdy (headsQ Q t)) N < 0
  · rw [if_pos hno] at h; simp at h
  · rw [if_neg hno]
    obtain ⟨kn, hkn, hkN, hkr, hkS⟩ := pick_some (F := y.F) (V := y.V) hno
    refine ⟨kn, by simp only [hkn], hkN, ?_⟩
    have hpos : 0 < headsQ Q t kn := by simpa [rdy] using hkr
    refine Classical.byContradiction fun q => ?_
    rw [headsQ_out (by omega)] at hpos
    omega
theorem stepX_no {N : Nat} {ALL : Int} {W : Nat → Int} {Q : Nat → List Int} {x : Sched} {t : Nat → Nat} (hg : goodQ Q N) (h : (stepX N ALL W Q x t).ok = false) : leftQ Q t N = 0 := by
  unfold stepX at h
  generalize toldN N ALL x.V W x.Z x.D x.S x.F (headsQ Q t) = y at h
  unfold pickX at h
  by_cases hno : leastK y.S (rdy (headsQ Q t)) N < 0
  · refine Classical.byContradiction fun q => ?_
    obtain ⟨i, hi, ht⟩ := leftQ_pos (Q := Q) (t := t) N (by omega)
    have h1 := leastK_no hno i hi
    have h2 := headsQ_in hg hi ht
    simp [rdy] at h1
    omega
  · rw [if_neg hno] at h; simp at h
end Fa
end Go.Proofs.Ytbbcongfaoopcaa
namespace Go.Proofs.Ytbbcongfaoopcaa
open Go.ChangeShapes Go.WideShapes Go.ChangeAt Go.RowKit Go.Maps
set_option linter.unusedVariables false
set_option linter.unusedSimpArgs false
open BigFrame Pk Fq Vr Fa

namespace Fa
def zC (l : List Int) : List Value := l.map (fun x => .int .i64 x)
theorem zC_len (l : List Int) : (zC l).length = l.length := by simp [zC]
theorem zC_at {l : List Int} {i : Nat} {x : Int} (h : l[i]? = some x) : (zC l)[i]? = some (.int .i64 x) := by simp [zC, h]
theorem zC_app (l : List Int) (x : Int) : zC (l ++ [x]) = zC l ++ [.int .i64 x] := by simp [zC]
/-- A slice of ints reads so. -/
structure IAt (w : World) (a : Option Addr) (n c : Nat) (d : List Int) : Prop where
  len : d.length = n
  cap : n ≤ c
  max : c ≤ 9223372036854775807
  row : 0 < n → ∃ b off, a = some ⟨b, off, none⟩ ∧ b < w.heap.size ∧ ∀ i x, d[i]? = some x → w.cell? ⟨b, off + i, none⟩ = some (.int .i64 x)
theorem IAt.below {w w' : World} {a : Option Addr} {n c m : Nat} {d : List Int} (h : IAt w a n c d) (k : Below m w w') (hm : ∀ b off, a = some ⟨b, off, none⟩ → 0 < n → b < m) : IAt w' a n c d :=
  ⟨h.len, h.cap, h.max, fun hn => by
    obtain ⟨b, off, rfl, hb, hc⟩ := h.row hn
    exact ⟨b, off, rfl, Nat.lt_of_lt_of_le hb k.size, fun i x hx => (k.cell (p := ⟨b, off + i, none⟩) (hm b off rfl hn)).trans (hc i x hx)⟩⟩
theorem IAt.bel {w w' : World} {a : Option Addr} {n c : Nat} {d : List Int} (h : IAt w a n c d) (k : Below w.heap.size w w') : IAt w' a n c d :=
  h.below k (fun b off e hn => by obtain ⟨b', off', e', hb, _⟩ := h.row hn; rw [e] at e'; cases e'; exact hb)
theorem IAt.nil (w : World) (a : Option Addr) (c : Nat) (h : c ≤ 9223372036854775807) : IAt w a 0 c [] := ⟨rfl, Nat.zero_le _, h, fun q => absurd q (Nat.lt_irrefl _)⟩
/-- A row of slices. -/
def sC (A : Nat → Option Addr) (L C : Nat → Nat) (N : Nat) : List Value := (List.range N).map fun i => .slice (A i) (L i) (C i)
theorem sC_len (A : Nat → Option Addr) (L C : Nat → Nat) (N : Nat) : (sC A L C N).length = N := by simp [sC]
theorem sC_at (A : Nat → Option Addr) (L C : Nat → Nat) (N i : Nat) (h : i < N) : (sC A L C N)[i]? = some (.slice (A i) (L i) (C i)) := by simp [sC, h]
theorem sC_one (A : Nat → Option Addr) (L C : Nat → Nat) (N : Nat) : ∀ u ∈ sC A L C N, u.oneCell' = true := by
  intro u hu
  obtain ⟨i, _, rfl⟩ := List.mem_map.1 hu
  rfl
/-- Queues as they came in. -/
structure QsAt (w : World) (a : Option Addr) (b off N : Nat) (A : Nat → Option Addr) (L C : Nat → Nat) (Q : Nat → List Int) : Prop where
  ha : 0 < N → a = some ⟨b, off, none⟩
  hb : 0 < N → b < w.heap.size
  c0 : ∀ i, i < N → w.cell? ⟨b, off + i, none⟩ = some (.slice (A i) (L i) (C i))
  q : ∀ i, i < N → IAt w (A i) (L i) (C i) (Q i)
theorem QsAt.bel {w w' : World} {a : Option Addr} {b off N : Nat} {A : Nat → Option Addr} {L C : Nat → Nat} {Q : Nat → List Int} (h : QsAt w a b off N A L C Q) (k : Below w.heap.size w w') : QsAt w' a b off N A L C Q :=
  ⟨h.ha, fun hn => Nat.lt_of_lt_of_le (h.hb hn) k.size, fun i hi => (k.cell (p := ⟨b, off + i, none⟩) (h.hb (by omega))).trans (h.c0 i hi), fun i hi => (h.q i hi).bel k⟩
def OwnZ (w : World) (B : Nat) (v : Value) (l : List Int) : Prop := w.ownsRow B 3 1 v l.length (zC l)
theorem OwnZ.lt {w : World} {B : Nat} {v : Value} {l : List Int} (h : OwnZ w B v l) {q : Nat} (hq : v.ownBlock = some q) : B ≤ q ∧ q < w.heap.size := by
  unfold OwnZ at h
  exact h.lt q hq
theorem OwnZ.kf {w w' : World} {B : Nat} {v : Value} {r : List Int} {l : List Nat} (h : OwnZ w B v r) (k : KF l w w') (hl : ∀ q, v.ownBlock = some q → q ∉ l) : OwnZ w' B v r := by
  refine ⟨h.1, ?_⟩
  rcases h.2 with hh | ⟨g, cap, cur, h1, h2, h3, h4⟩
  · exact .inl hh
  · exact .inr ⟨g, cap, cur, h1, h2, (k.k g (Array.getElem?_eq_some_iff.1 h3).1 (hl g (by rw [h1]; rfl))).trans h3, h4⟩
theorem OwnZ.nil (w : World) (B : Nat) : OwnZ w B (.slice none 0 0) [] := ⟨rfl, .inl ⟨rfl, rfl⟩⟩
theorem OwnZ.iat {w : World} {B : Nat} {a : Option Addr} {n c : Nat} {l : List Int} (h : OwnZ w B (.slice a n c) l) (hn : n = l.length) (hc : n ≤ c) (hm : c ≤ 9223372036854775807) : IAt w a n c l := by
  refine ⟨hn.symm, hc, hm, fun h0 => ?_⟩
  subst hn
  unfold OwnZ at h
  obtain ⟨g, cap, e, hb, hl⟩ := h.form h0
  cases e
  refine ⟨g, 0, rfl, hl, fun i x hx => ?_⟩
  have hi : i < l.length := (List.getElem?_eq_some_iff.1 hx).1
  rw [Nat.zero_add, h.cellAt i (by omega)]
  exact zC_at hx
theorem info_int : (Try.prog.info? 3).map (fun i => (i.zero, i.size, i.bytes)) = some (some (.int .i64 0), 1, 8) := by kernel_rfl
theorem wpList_appZ {w : World} {ops : Array Oper} {rest : List Oper} {o : Oper} {a : Act} {Q : Exit → Act → World → Prop} (hgd : o.guard = none) (s x : Operand)
    (ho : o.op = .call { callee := .builtin .append, args := #[s, x], argTypes := #[22, 22] }) (B : Nat) (v : Value) (l : List Int) (y : Int) (hs : a.eval s = v) (hown : OwnZ w B v l) (hB : B ≤ w.heap.size)
    {q c : Nat} (hx : a.eval x = .slice (some ⟨q, 0, none⟩) 1 c) (hk : Blk w q [.int .i64 y]) (hl : l.length ≤ 1000000)
    (h : ∀ (a' : Option Addr) (n' c' : Nat) w', OwnZ w' B (.slice a' n' c') (l ++ [y]) → n' = l.length + 1 → w'.heap.size ≥ w.heap.size → w.grownBy w' v.ownBlock → ((Value.slice a' n' c').ownBlock = v.ownBlock ∨ (Value.slice a' n' c').ownBlock = some w.heap.size) → wpList Try.prog ops Q rest (a.put o.dst (.slice a' n' c')) w') : wpList Try.prog ops Q (o :: rest) a w := by
  obtain ⟨i0, hi0, hz0, hz1, hz2⟩ := info_parts info_int
  refine wpList_append_own_at w hgd s x 22 ho B 3 i0 _ 1 8 Try.underlying22 hi0 hz0 hz1 hz2 rfl (by omega) v l.length (zC l) hs hown ⟨q, 0, none⟩ 1 c [.int .i64 y] hx rfl (fun j u hj => ?_) (by intro u hu; simp at hu; rcases hu with rfl; rfl) (by unfold maxLen; omega) (by omega) hB (fun v' w' h1 h2 _ h4 => ?_)
  · have := hk.c j u hj
    rw [Addr.add_lit, Nat.zero_add]
    exact this
  · have h3 : OwnZ w' B v' (l ++ [y]) := by
      unfold OwnZ
      rw [zC_app, List.length_append]
      exact h1
    have h5 := h3
    unfold OwnZ at h5
    rcases h5.2 with ⟨e, e2⟩ | ⟨g, cap, cur, e, _⟩
    · simp at e2
    · subst e
      exact h _ _ _ w' h3 (by simp) h2.size h2 h4
/-- Heads: their sizes, no weights. -/
def OwnH (w : World) (B : Nat) (v : Value) (H : Nat → Int) (n : Nat) : Prop := w.ownsRow B 60 2 v n (tagV H nz n)
theorem OwnH.lt {w : World} {B : Nat} {v : Value} {H : Nat → Int} {n : Nat} (h : OwnH w B v H n) {q : Nat} (hq : v.ownBlock = some q) : B ≤ q ∧ q < w.heap.size := by
  unfold OwnH at h
  exact h.lt q hq
theorem OwnH.kf {w w' : World} {B : Nat} {v : Value} {H : Nat → Int} {n : Nat} {l : List Nat} (h : OwnH w B v H n) (k : KF l w w') (hl : ∀ q, v.ownBlock = some q → q ∉ l) : OwnH w' B v H n := by
  refine ⟨h.1, ?_⟩
  rcases h.2 with hh | ⟨g, cap, cur, h1, h2, h3, h4⟩
  · exact .inl hh
  · exact .inr ⟨g, cap, cur, h1, h2, (k.k g (Array.getElem?_eq_some_iff.1 h3).1 (hl g (by rw [h1]; rfl))).trans h3, h4⟩
theorem OwnH.nil (w : World) (B : Nat) (H : Nat → Int) : OwnH w B (.slice none 0 0) H 0 := ⟨rfl, .inl ⟨rfl, rfl⟩⟩
theorem OwnH.tags {w : World} {B : Nat} {a : Option Addr} {n c : Nat} {H : Nat → Int} (h : OwnH w B (.slice a n c) H n) (hn : 0 < n) : ∃ g, a = some ⟨g, 0, none⟩ ∧ B ≤ g ∧ TagsAt w (some ⟨g, 0, none⟩) g 0 n H nz := by
  unfold OwnH at h
  obtain ⟨g, cap, e, hb, hl⟩ := h.form hn
  cases e
  refine ⟨g, rfl, hb, fun _ => rfl, fun _ => hl, fun i hi => ?_, fun i hi => ?_⟩
  · rw [Nat.zero_add, h.cellAt (i * 2) (by omega)]
    exact (tagV_at H nz n i hi).1
  · rw [Nat.zero_add, h.cellAt (i * 2 + 1) (by omega)]
    exact (tagV_at H nz n i hi).2
theorem info_head : (Try.prog.info? 60).map (fun i => (i.zero, i.size, i.bytes)) = some (some (.agg #[.int .i64 0, .int .i64 0]), 2, 16) := by kernel_rfl
theorem wpList_appH {w : World} {ops : Array Oper} {rest : List Oper} {o : Oper} {a : Act} {Q : Exit → Act → World → Prop} (hgd : o.guard = none) (s x : Operand)
    (ho : o.op = .call { callee := .builtin .append, args := #[s, x], argTypes := #[43, 43] }) (B : Nat) (v : Value) (H : Nat → Int) (n : Nat) (hs : a.eval s = v) (hown : OwnH w B v H n) (hB : B ≤ w.heap.size)
    {q c : Nat} (hx : a.eval x = .slice (some ⟨q, 0, none⟩) 1 c) (hk : Blk w q [.int .i64 (H n), .int .i64 0]) (hl : n ≤ 1000000)
    (h : ∀ (a' : Option Addr) (n' c' : Nat) w', OwnH w' B (.slice a' n' c') H (n + 1) → n' = n + 1 → w'.heap.size ≥ w.heap.size → w.grownBy w' v.ownBlock → ((Value.slice a' n' c').ownBlock = v.ownBlock ∨ (Value.slice a' n' c').ownBlock = some w.heap.size) → wpList Try.prog ops Q rest (a.put o.dst (.slice a' n' c')) w') : wpList Try.prog ops Q (o :: rest) a w := by
  obtain ⟨i0, hi0, hz0, hz1, hz2⟩ := info_parts info_head
  refine wpList_append_own_at w hgd s x 43 ho B 60 i0 _ 2 16 Try.underlying43 hi0 hz0 hz1 hz2 rfl (by omega) v n (tagV H nz n) hs hown ⟨q, 0, none⟩ 1 c [.int .i64 (H n), .int .i64 0] hx rfl (fun j u hj => ?_) (by intro u hu; simp at hu; rcases hu with rfl | rfl <;> rfl) (by unfold maxLen; omega) (by omega) hB (fun v' w' h1 h2 _ h4 => ?_)
  · have := hk.c j u hj
    rw [Addr.add_lit, Nat.zero_add]
    exact this
  · have h3 : OwnH w' B v' H (n + 1) := by
      unfold OwnH
      rw [tagV_succ]
      exact h1
    rcases h3.2 with ⟨e, e2⟩ | ⟨g, cap, cur, e, _⟩
    · simp at e2
    · subst e
      exact h _ _ _ w' h3 rfl h2.size h2 h4
theorem info_ints : (Try.prog.info? 22).map (fun i => (i.zero, i.size, i.bytes)) = some (some (.slice none 0 0), 1, 24) := by kernel_rfl
def CloneQ (N : Nat) (A : Nat → Option Addr) (L C : Nat → Nat) (w : World) (e : Ending) (w' : World) : Prop := ∃ (g c : Nat), e = .returned (.slice (some ⟨g, 0, none⟩) N c) ∧ Blk w' g (sC A L C N) ∧ w.heap.size ≤ g ∧ Below w.heap.size w w'
def sizeBad (x : Int) : Bool := decide (x < 1) || decide (1500 < x)
end Fa
@[local go_sem]
theorem eql_qs_some (a : Addr) (l c : Nat) (u : World) : Sem.run Try.prog (binOp BinOp.eql 23 (.slice (some a) l c) (.slice none 0 0)) u = .ok (.bool false) u := by rfl

set_option maxRecDepth 100000 in
theorem qclone_c {a : Option Addr} {b off N : Nat} {A : Nat → Option Addr} {L C : Nat → Nat} {Q : Nat → List Int} (c : Nat) (w : World) (T : QsAt w a b off N A L C Q) (hN : N ≤ 1000) (h0 : 0 < N) :
    Calls Try.prog 22 #[.slice a N c] w (CloneQ N A L C w) := by
  obtain ⟨i0, hi0, hz0, hz1, hz2⟩ := info_parts info_ints
  obtain rfl := T.ha h0
  have hown0 : (w.alloc (.cells #[] 22)).ownsRow w.heap.size 22 1 (.slice (some ⟨w.heap.size, 0, none⟩) 0 0) 0 [] := World.ownsRow_lit (base := w.heap.size) (e := 22) (size := 1) w #[] 0 (Nat.le_refl _) (by unfold maxLen; omega) (by rfl)
  have hB0 : Below w.heap.size w (w.alloc (.cells #[] 22)) := (Below.refl _ _).alloc (Nat.le_refl _) _
  have hcells : ∀ j u, (sC A L C N)[j]? = some u → (w.alloc (.cells #[] 22)).cell? ((⟨b, off, none⟩ : Addr).add j) = some u := fun j u hu => by
    have hj : j < N := by have := (List.getElem?_eq_some_iff.1 hu).1; rwa [sC_len] at this
    rw [Addr.add_lit]
    refine (hB0.cell (p := ⟨b, off + j, none⟩) (T.hb h0)).trans ?_
    rw [sC_at A L C N j hj] at hu
    rw [← hu]
    exact T.c0 j hj
  have hmx : 0 + N ≤ maxLen := by unfold maxLen; omega
  have hlen : (sC A L C N).length = N * 1 := by rw [sC_len]; omega
  clear T
  go_enter Try.func22, Try.ntmps22
  go_wp2_with (at_builtin; refine wpList_append_lies _ rfl _ _ 23 (by rfl) w.heap.size 22 i0 _ 1 24 Try.underlying23 hi0 hz0 hz1 hz2 (by rfl) (by omega) _ _ _ (by rfl) hown0 ⟨b, off, none⟩ N c _ (by rfl) hlen hcells (sC_one A L C N) h0 hmx (by omega) hB0.size (w.heap.size + 1) (by simp) ?_; intro g1 cap1 w3 hown1 hgrow1 hat1 hlt1)
  rw [Nat.zero_add] at hown1
  have hg : w.heap.size ≤ g1 := (hown1.lt g1 rfl).1
  have hB3 : Below w.heap.size w w3 := hB0.grown hgrow1 hB0.size (fun q hq => by have := (hown0.lt q hq).1; omega)
  go_ret
  refine ⟨g1, cap1, rfl, ⟨fun i x hx => ?_, fun o => hown1.frozenAt o, hlt1⟩, hg, hB3⟩
  have hi : i < (sC A L C N).length := (List.getElem?_eq_some_iff.1 hx).1
  rw [sC_len] at hi
  rw [hown1.cellAt i (by omega), List.nil_append]
  exact hx

set_option maxRecDepth 100000 in
set_option maxHeartbeats 2000000 in
theorem sbad_c (s : Int) (w : World) :
    Calls Try.prog 21 #[.int .i64 s] w fun e w' => e = .returned (.bool (sizeBad s)) ∧ w' = w := by
  unfold sizeBad
  by_cases h1 : s < 1
  · go_enter Try.func21, Try.ntmps21
    go_wp2_with fail
    exact bodyPost_ret (v := .bool true) (by simp [results, Try.results21, go_sem]) rfl ⟨by simp [h1], rfl⟩
  by_cases h3 : 1500 < s
  · go_enter Try.func21, Try.ntmps21
    go_wp2_with fail
    exact bodyPost_ret (v := .bool true) (by simp [results, Try.results21, go_sem]) rfl ⟨by simp [h3], rfl⟩
  · go_enter Try.func21, Try.ntmps21
    go_wp2_with fail
    exact bodyPost_ret (v := .bool false) (by simp [results, Try.results21, go_sem]) rfl ⟨by simp [h1, h3], rfl⟩

set_option maxRecDepth 100000 in
set_option maxHeartbeats 2000000 in
theorem sidx_c (a : Option Addr) (n c : Nat) (d : List Int) (w : World) (T : IAt w a n c d) (hN : n ≤ 100000) :
    Calls Try.prog 37 #[.slice a n c, .func (.func 21) #[] #[]] w fun e w' => ∃ r : Int, e = .returned (.int .i64 r) ∧ (r < 0 ↔ ∀ x, x ∈ d → sizeBad x = false) ∧ w' = w := by
  have hlen := T.len
  by_cases h0 : 0 < n
  · obtain ⟨b, off, rfl, hb, hc⟩ := T.row h0
    replace hc := Lib.hid hc
    clear T
    go_enter Try.func37, Try.ntmps37
    go_wp2_with fail
    go_loopg [5, 8] n (fun gg _ s8 wr => ∃ kk : Nat, kk ≤ n ∧ n - kk ≤ gg ∧ s8 = .int .i64 kk ∧ wr = w ∧ Aside (∀ j x, j < kk → d[j]? = some x → sizeBad x = false))
    case atStart => exact ⟨0, Nat.zero_le _, by omega, rfl, rfl, fun j x hj => absurd hj (Nat.not_lt_zero _)⟩
    case round =>
      obtain ⟨kk, hkk, hg, rfl, rfl, A⟩ := hrel
      by_cases hlt : kk < n
      · have hltz : (kk : Int) < (n : Int) := by omega
        obtain ⟨x, hx⟩ : ∃ x, d[kk]? = some x := ⟨_, List.getElem?_eq_getElem (by omega)⟩
        have l0 := hc.out kk x hx
        replace hx := Lib.hid hx
        have hcall := sbad_c x wr
        cases hq : sizeBad x with
        | true =>
          rw [hq] at hcall
          go_wp2_with fail
          refine hcall.mono ?_
          rintro e w' ⟨rfl, rfl⟩
          go_wp2_with fail
          go_ret
          exact ⟨_, rfl, ⟨fun h => absurd h (by omega), fun h => by have := h x (List.mem_of_getElem? hx.out); rw [hq] at this; cases this⟩, rfl⟩
        | false =>
          rw [hq] at hcall
          go_wp2_with fail
          refine hcall.mono ?_
          rintro e w' ⟨rfl, rfl⟩
          go_wp2_with fail
          go_roundg (n - (kk + 1))
          case measure => omega
          case rel =>
            refine ⟨kk + 1, by omega, by omega, by go_num, rfl, (show Aside _ from fun j y hj hy => ?_)⟩
            by_cases e : j = kk
            · subst e
              rw [hx.out] at hy
              cases hy
              exact hq
            · exact A.out j y (by omega) hy
      · have hltz : ¬ (kk : Int) < (n : Int) := by omega
        have : kk = n := by omega
        subst this
        go_wp2
        go_ret
        refine ⟨_, rfl, ⟨fun _ y hy => ?_, fun _ => by omega⟩, rfl⟩
        obtain ⟨j, hj⟩ := List.getElem?_of_mem hy
        exact A.out j y (by have := (List.getElem?_eq_some_iff.1 hj).1; omega) hj
  · obtain rfl : n = 0 := by omega
    obtain rfl : d = [] := List.eq_nil_of_length_eq_zero hlen
    clear T
    go_enter Try.func37, Try.ntmps37
    go_wp2_with fail
    go_loopg [5, 8] 0 (fun _ _ s8 wr => s8 = .int .i64 0 ∧ wr = w)
    case atStart => exact ⟨rfl, rfl⟩
    case round =>
      obtain ⟨rfl, rfl⟩ := hrel
      go_wp2
      go_ret
      exact ⟨_, rfl, ⟨fun _ x hx => by simp at hx, fun _ => by omega⟩, rfl⟩

set_option maxRecDepth 100000 in
theorem scontains_c (a : Option Addr) (n c : Nat) (d : List Int) (w : World) (T : IAt w a n c d) (hN : n ≤ 100000) :
    Calls Try.prog 20 #[.slice a n c, .func (.func 21) #[] #[]] w fun e w' => e = .returned (.bool (!decide (∀ x, x ∈ d → sizeBad x = false))) ∧ w' = w := by
  have hc := sidx_c a n c d w T hN
  clear T
  go_enter Try.func20, Try.ntmps20
  go_wp2_with (go_at_call 37; refine hc.mono ?_; rintro e w' ⟨r, rfl, hr, rfl⟩)
  go_ret
  refine ⟨?_, rfl⟩
  by_cases h : r < 0
  · rw [decide_eq_true (hr.1 h), decide_eq_false (by omega)]; rfl
  · rw [decide_eq_false (fun k => h (hr.2 k)), decide_eq_true (by omega)]; rfl
end Go.Proofs.Ytbbcongfaoopcaa
namespace Go.Proofs.Ytbbcongfaoopcaa
open Go.ChangeShapes Go.WideShapes Go.ChangeAt Go.RowKit Go.Maps
set_option linter.unusedVariables false
set_option linter.unusedSimpArgs false
open BigFrame Pk Fq Vr Fa

namespace Fa
def t0 : Nat → Nat := fun _ => 0
def upA (A : Nat → Option Addr) (k : Nat) (a : Option Addr) : Nat → Option Addr := fun i => if i = k then a else A i
theorem sC_set (A : Nat → Option Addr) (L C : Nat → Nat) (k : Nat) (a : Option Addr) (n c N : Nat) : (sC A L C N).set k (.slice a n c) = sC (upA A k a) (upn L k n) (upn C k c) N := by
  apply List.ext_getElem?
  intro i
  rw [List.getElem?_set]
  by_cases e : k = i
  · subst e
    by_cases h : k < N
    · rw [if_pos rfl, if_pos (by rw [sC_len]; exact h), sC_at _ _ _ _ _ h]; simp [upA, upn]
    · rw [if_pos rfl, if_neg (by rw [sC_len]; exact h)]
      rw [List.getElem?_eq_none (by rw [sC_len]; omega)]
  · rw [if_neg e]
    by_cases h : i < N
    · rw [sC_at _ _ _ _ _ h, sC_at _ _ _ _ _ h]; simp only [upA, upn]; rw [if_neg (fun q => e q.symm), if_neg (fun q => e q.symm), if_neg (fun q => e q.symm)]
    · rw [List.getElem?_eq_none (by rw [sC_len]; omega), List.getElem?_eq_none (by rw [sC_len]; omega)]
theorem sizeOk {x : Int} : sizeBad x = false ↔ 1 ≤ x ∧ x ≤ 1500 := by
  unfold sizeBad
  simp only [Bool.or_eq_false_iff, decide_eq_false_iff_not]
  omega
theorem leftQ_mono {Q : Nat → List Int} {t : Nat → Nat} {i : Nat} : ∀ n, i ≤ n → leftQ Q t i ≤ leftQ Q t n
  | 0, h => by obtain rfl : i = 0 := by omega
               exact Nat.le_refl _
  | n + 1, h => by
    by_cases e : i = n + 1
    · subst e; exact Nat.le_refl _
    · have := leftQ_mono (Q := Q) (t := t) (i := i) n (by omega)
      simp only [leftQ]
      omega
theorem headsQ_drop (Q : Nat → List Int) (t : Nat → Nat) (i : Nat) : headsQ Q t i = ((Q i).drop (t i)).getD 0 0 := by
  unfold headsQ
  rw [List.getD_eq_getElem?_getD, List.getD_eq_getElem?_getD, List.getElem?_drop, Nat.add_zero]
/-- Where Run stands. -/
structure RunS (w wr : World) (f lb lq N : Nat) (ALL : Int) (W : Nat → Int) (Q : Nat → List Int) (total : Nat) (all : List Int) (x : Sched) (t : Nat → Nat) (m : Nat) (out : List Int) (ov : Value) (cl tb ct : Nat) (A : Nat → Option Addr) (L C : Nat → Nat) : Prop where
  hfd : FD wr f lb cl tb ct N ALL x.V W x.Z x.D x.S x.F
  hinv : Inv ((total - m : Nat) * PM) ALL x.V N W x.Z x.D x.S x.F
  hm : m ≤ total
  hleft : leftQ Q t N = m
  hall : out ++ servedN N ALL W Q m x t = all
  hln : out.length + m = total
  hown : OwnZ wr w.heap.size ov out
  hlq : Blk wr lq (sC A L C N)
  hq : ∀ i, i < N → t i ≤ (Q i).length ∧ IAt w (A i) (L i) (C i) ((Q i).drop (t i))
  hbel : Below w.heap.size w wr
  f1 : w.heap.size ≤ f
  f2 : w.heap.size ≤ lb
  f3 : w.heap.size ≤ tb
  f4 : w.heap.size ≤ lq
  d1 : lq ≠ f
  d2 : lq ≠ lb
  d3 : lq ≠ tb
  d4 : ∀ q, ov.ownBlock = some q → q ≠ f ∧ q ≠ lb ∧ q ≠ tb ∧ q ≠ lq
def RunP (w : World) (l : List Int) (e : Ending) (w' : World) : Prop := ∃ a n c, e = .returned (.slice a n c) ∧ n = l.length ∧ OwnZ w' w.heap.size (.slice a n c) l ∧ Below w.heap.size w w'
end Fa

set_option maxRecDepth 100000 in
set_option maxHeartbeats 20000000 in
theorem frun_ok (w : World) (b off N c c2 b2 off2 : Nat) (g : Nat → Int) (a2 : Option Addr) (A : Nat → Option Addr) (L C : Nat → Nat) (Q : Nat → List Int) (h1 : 1 ≤ N) (h8 : N ≤ 8) (hb : b < w.heap.size) (hc : ∀ i, i < N → w.cell? ⟨b, off + i, none⟩ = some (.int .i64 (g i))) (hg : ∀ i, i < N → 1 ≤ g i ∧ g i ≤ 16)
    (T : QsAt w a2 b2 off2 N A L C Q) (hgood : goodQ Q N) (htot : leftQ Q t0 N ≤ 1000) :
    Calls Try.prog 9 #[.slice (some ⟨b, off, none⟩) N c, .slice a2 N c2] w (RunP w (servedN N (sumW g N) g Q (leftQ Q t0 N) sched0 t0)) := by
  have hN1 : (1 : Int) ≤ (N : Int) := by omega
  have hN8 : (N : Int) ≤ 8 := by omega
  have hnew := Lib.hid (fnew_ok w b off N c g h1 h8 hb hc hg)
  obtain rfl := T.ha (by omega)
  have hb2 := T.hb (by omega)
  replace T := Lib.hid T
  replace hgood := Lib.hid hgood
  replace hg := Lib.hid hg
  clear hc
  go_enter Try.func9, Try.ntmps9
  go_wp2_with fail
  refine hnew.out.mono ?_
  rintro e w1 ⟨f, lb, cl, tb, ct, rfl, hF, hf1, hf2, hf3, hB1⟩
  have T1 := Lib.hid (T.out.bel hB1)
  replace hF := Lib.hid hF
  replace hB1 := Lib.hid hB1
  clear hnew
  go_wp2_with fail
  go_loopw [4, 7, 9, 33] (fun s4 s7 _ s33 wr => ∃ (i : Nat), s4 = .slice none 0 0 ∧ s7 = .int .i64 ((leftQ Q t0 i : Nat) : Int) ∧ s33 = .int .i64 (i : Nat) ∧ i ≤ N ∧ wr = w1) (fun _ _ _ s33 _ => N - (intOf s33).toNat)
  case atStart => exact ⟨0, rfl, rfl, rfl, Nat.zero_le _, rfl⟩
  case round =>
    obtain ⟨i, rfl, rfl, rfl, hi, rfl⟩ := hrel
    have ii : (i : Int) ≤ (N : Int) := by omega
    by_cases hlt : i < N
    · have ii1 : (i : Int) < (N : Int) := by omega
      have x0 := T1.out.c0 i hlt
      have hq := T1.out.q i hlt
      have hmono := leftQ_mono (Q := Q) (t := t0) (i := i + 1) N (by omega)
      have hlen := hq.len
      have hcap := hq.cap
      have hmax := hq.max
      have hstep : leftQ Q t0 (i + 1) = leftQ Q t0 i + L i := by simp only [leftQ, t0]; omega
      have hcont := scontains_c (A i) (L i) (C i) (Q i) wr hq (by omega)
      have hdec : (!decide (∀ x, x ∈ Q i → sizeBad x = false)) = false := by
        rw [decide_eq_true (fun x hx => sizeOk.2 (hgood.out i hlt x hx))]; rfl
      rw [hdec] at hcont
      replace hcont := Lib.hid hcont
      obtain ⟨Li, eL⟩ : ∃ n, L i = n := ⟨_, rfl⟩
      obtain ⟨Ci, eC⟩ : ∃ n, C i = n := ⟨_, rfl⟩
      obtain ⟨Ai, eA⟩ : ∃ n, A i = n := ⟨_, rfl⟩
      obtain ⟨S, eS⟩ : ∃ n, leftQ Q t0 i = n := ⟨_, rfl⟩
      rw [eL, eC] at hcap
      rw [eC] at hmax
      rw [eL, eC, eA] at hcont x0
      rw [hstep, eS, eL] at hmono
      rw [eS, eL] at hstep
      replace hstep := Lib.hid hstep
      have hle : ((S : Nat) : Int) + (Li : Int) ≤ 1000 := by omega
      clear hq hdec eL eC eA hlen
      rw [eS]
      clear eS
      go_wp2_with fail
      refine hcont.out.mono ?_
      rintro e w' ⟨rfl, rfl⟩
      go_wp2_with fail
      go_roundw
      case rel => exact ⟨i + 1, rfl, by rw [hstep.out]; push_cast; rfl, by go_num, hlt, by first | rfl | trivial⟩
      case measure => simp [intOf]; omega
    · obtain rfl : i = N := by omega
      have hcl := Lib.hid (qclone_c c2 wr T1.out (by omega) (by omega))
      go_wp2_with fail
      refine hcl.out.mono ?_
      rintro e w2 ⟨lq, cq, rfl, hLQ, hlq, hB2⟩
      have hsz1 := hB1.out.size
      have hfl := hF.out.b.l
      have hll := hF.out.l.l
      have htl := hF.out.tl
      have hS : RowKit.Hid (RunS w w2 f lb lq i (sumW g i) g Q (leftQ Q t0 i) (servedN i (sumW g i) g Q (leftQ Q t0 i) sched0 t0) sched0 t0 (leftQ Q t0 i) [] (.slice none 0 0) cl tb ct A L C) := Lib.hid
        ⟨hF.out.bel hB2, by rw [Nat.sub_self]; have := inv0 h8 hg.out; simpa [sched0] using this, Nat.le_refl _, rfl, List.nil_append _, by simp, OwnZ.nil _ _, hLQ, fun j hj => ⟨Nat.zero_le _, by have := T.out.q j hj; simpa [t0] using this⟩, hB1.out.trans (hB2.mono hsz1), hf1, hf2, hf3, by omega, by omega, by omega, by omega, fun q e => by cases e⟩
      clear hcl hF T1 hLQ hB1 hB2 T
      obtain ⟨total, htot2⟩ : ∃ n, leftQ Q t0 i = n := ⟨_, rfl⟩
      rw [htot2] at hS htot
      generalize hall : servedN i (sumW g i) g Q total sched0 t0 = all at hS
      replace hall := Lib.hid hall
      replace htot2 := Lib.hid htot2
      go_wp2_with fail
      go_loopg [4, 11, 13, 14, 15, 16] total (fun gg s4 _ _ _ _ _ wr => ∃ (x : Sched) (t : Nat → Nat) (m : Nat) (out : List Int) (ov : Option Addr) (on oc tb ct : Nat) (A : Nat → Option Addr) (L C : Nat → Nat), s4 = .slice ov on oc ∧ on = out.length ∧ m ≤ gg ∧ RowKit.Hid (RunS w wr f lb lq i (sumW g i) g Q total all x t m out (.slice ov on oc) cl tb ct A L C))
      case atStart => exact ⟨sched0, t0, total, [], none, 0, 0, tb, ct, A, L, C, rfl, by first | rfl | trivial, Nat.le_refl _, hS⟩
      case round =>
        obtain ⟨x, t, m, out, ov, on, oc, tb, ct, A, L, C, rfl, hon, hgg, hS⟩ := hrel
        obtain ⟨W2, rfl⟩ : ∃ u : World, u = wr := ⟨_, rfl⟩
        replace hon := Lib.hid hon
        go_wp2_with fail
        go_loopw [11, 13, 14, 52] (fun s11 _ _ s52 wr => ∃ (j : Nat) (hv : Option Addr) (hc : Nat), s11 = .slice hv j hc ∧ s52 = .int .i64 (j : Nat) ∧ j ≤ i ∧ RowKit.Hid (OwnH wr W2.heap.size (.slice hv j hc) (headsQ Q t) j) ∧ RowKit.Hid (Below W2.heap.size W2 wr)) (fun _ _ _ s52 _ => i - (intOf s52).toNat)
        case atStart => exact ⟨0, none, 0, rfl, rfl, Nat.zero_le _, Lib.hid (OwnH.nil _ _ _), Lib.hid (Below.refl _ _)⟩
        case round =>
          obtain ⟨j, hv, hc, rfl, rfl, hj, hO, hB⟩ := hrel
          have jj : (j : Int) ≤ (i : Int) := by omega
          by_cases hjl : j < i
          · have jj1 : (j : Int) < (i : Int) := by omega
            have x0 := (hS.out.hlq.bel hB.out).c j _ (sC_at A L C i j hjl)
            obtain ⟨htj, hqj⟩ := hS.out.hq j hjl
            have hq2 := hqj.bel (hS.out.hbel.trans (hB.out.mono hS.out.hbel.size))
            have hlen := hq2.len
            have hhd := Lib.hid (headsQ_drop Q t j)
            by_cases hpos : 0 < L j
            · obtain ⟨bj, oj, eA, hbj, hcj⟩ := hq2.row hpos
              obtain ⟨y, hy⟩ : ∃ y, ((Q j).drop (t j))[0]? = some y := ⟨_, List.getElem?_eq_getElem (by omega)⟩
              have hhy : RowKit.Hid (headsQ Q t j = y) := Lib.hid (by rw [hhd.out, List.getD_eq_getElem?_getD, hy]; rfl)
              have y0 := hcj 0 y hy
              rw [Nat.add_zero] at y0
              have hpos2 : (0 : Int) < (L j : Int) := by omega
              rw [eA] at x0
              replace hy := Lib.hid hy
              replace hcj := Lib.hid hcj
              clear hq2 hqj hhd eA
              go_upto_region 20 with fail
              have hO3 := hO.out.kf (KF.of (l := []) ((Below.refl wr.heap.size wr).alloc (Nat.le_refl _) (.cells #[.int .i64 y, .int .i64 0] 60))) (fun q hq => by simp)
              have hB3 := hB.out.alloc hB.out.size (.cells #[.int .i64 y, .int .i64 0] 60)
              have xb := blk_new wr (.int .i64 y) (.int .i64 0) 60
              generalize wr.alloc (.cells #[.int .i64 y, .int .i64 0] 60) = W3 at hO3 hB3 xb ⊢
              have q0 := xb.c 0 _ rfl
              have q1 := xb.c 1 _ rfl
              have hbk := Lib.hid (show Blk (W3.alloc (.cells #[.int .i64 y, .int .i64 0] 60)) W3.heap.size [.int .i64 (headsQ Q t j), .int .i64 0] by rw [hhy.out]; exact blk_new W3 (.int .i64 y) (.int .i64 0) 60)
              have hO8 := Lib.hid (hO3.kf (KF.of (l := []) ((Below.refl W3.heap.size W3).alloc (Nat.le_refl _) (.cells #[.int .i64 y, .int .i64 0] 60))) (fun q hq => by simp))
              have hszA := Lib.hid (show W2.heap.size ≤ (W3.alloc (.cells #[.int .i64 y, .int .i64 0] 60)).heap.size by have := hB3.size; simp; omega)
              replace hB3 := Lib.hid hB3
              replace hO3 := Lib.hid hO3
              clear x0 y0 xb
              go_wp2_with (at_builtin; refine wpList_appH rfl _ _ rfl W2.heap.size (.slice hv j hc) (headsQ Q t) j (by rfl) hO8.out hszA.out (by rfl) hbk.out (by omega) ?_; intro a5 n5 c5 w5 hown5 hn5 hsz5 hgrow5 hor5; obtain rfl : n5 = j + 1 := hn5; have hown5 := Lib.hid hown5; have hgrow5 := Lib.hid hgrow5; clear hor5 hsz5 hbk hO8 q0 q1)
              go_roundw
              case rel => exact ⟨j + 1, a5, c5, rfl, by go_num, hjl, hown5, Lib.hid ((hB3.out.alloc hB3.out.size _).grown hgrow5.out hszA.out (fun q hq => (hO3.out.lt hq).1))⟩
              case measure => simp [intOf]; omega
            · have hz : L j = 0 := by omega
              have hhy : RowKit.Hid (headsQ Q t j = 0) := Lib.hid (by rw [hhd.out, List.eq_nil_of_length_eq_zero (hlen.trans hz)]; rfl)
              rw [hz] at x0
              clear hq2 hqj hhd
              go_upto_region 20 with fail
              have hO3 := hO.out.kf (KF.of (l := []) ((Below.refl wr.heap.size wr).alloc (Nat.le_refl _) (.cells #[.int .i64 0, .int .i64 0] 60))) (fun q hq => by simp)
              have hB3 := hB.out.alloc hB.out.size (.cells #[.int .i64 0, .int .i64 0] 60)
              have xb := blk_new wr (.int .i64 0) (.int .i64 0) 60
              generalize wr.alloc (.cells #[.int .i64 0, .int .i64 0] 60) = W3 at hO3 hB3 xb ⊢
              have q0 := xb.c 0 _ rfl
              have q1 := xb.c 1 _ rfl
              have hbk := Lib.hid (show Blk (W3.alloc (.cells #[.int .i64 0, .int .i64 0] 60)) W3.heap.size [.int .i64 (headsQ Q t j), .int .i64 0] by rw [hhy.out]; exact blk_new W3 (.int .i64 0) (.int .i64 0) 60)
              have hO8 := Lib.hid (hO3.kf (KF.of (l := []) ((Below.refl W3.heap.size W3).alloc (Nat.le_refl _) (.cells #[.int .i64 0, .int .i64 0] 60))) (fun q hq => by simp))
              have hszA := Lib.hid (show W2.heap.size ≤ (W3.alloc (.cells #[.int .i64 0, .int .i64 0] 60)).heap.size by have := hB3.size; simp; omega)
              replace hB3 := Lib.hid hB3
              replace hO3 := Lib.hid hO3
              clear x0 xb
              go_wp2_with (at_builtin; refine wpList_appH rfl _ _ rfl W2.heap.size (.slice hv j hc) (headsQ Q t) j (by rfl) hO8.out hszA.out (by rfl) hbk.out (by omega) ?_; intro a5 n5 c5 w5 hown5 hn5 hsz5 hgrow5 hor5; obtain rfl : n5 = j + 1 := hn5; have hown5 := Lib.hid hown5; have hgrow5 := Lib.hid hgrow5; clear hor5 hsz5 hbk hO8 q0 q1)
              go_roundw
              case rel => exact ⟨j + 1, a5, c5, rfl, by go_num, hjl, hown5, Lib.hid ((hB3.out.alloc hB3.out.size _).grown hgrow5.out hszA.out (fun q hq => (hO3.out.lt hq).1))⟩
              case measure => simp [intOf]; omega
          · obtain rfl : j = i := by omega
            obtain ⟨hg3, rfl, hgb, TH⟩ := hO.out.tags (by omega)
            have hbl := hS.out.hbel.trans (hB.out.mono hS.out.hbel.size)
            have dF := hS.out.hfd.bel hB.out
            have hfl2 := hS.out.hfd.b.l
            have hll2 := hS.out.hfd.l.l
            have hinv := hS.out.hinv
            have hm := hS.out.hm
            have hM : ((total - m : Nat) : Int) * PM ≤ 1000000000000000 := by unfold PM; omega
            have hpk := Lib.hid (fpick_ok dF hinv hM hg3 0 hc (headsQ Q t) nz TH (by omega) (by omega) (headsQ_ok hgood.out t))
            have hst : pickX j (headsQ Q t) (toldN j (sumW g j) x.V g x.Z x.D x.S x.F (headsQ Q t)) = stepX j (sumW g j) g Q x t := rfl
            rw [hst] at hpk
            obtain ⟨p, hp⟩ : ∃ p, RowKit.Hid (stepX j (sumW g j) g Q x t = p) := ⟨_, Lib.hid rfl⟩
            rw [hp.out] at hpk
            have hO2 := Lib.hid (hS.out.hown.kf (KF.of (l := []) hB.out) (fun q hq => by simp))
            have hL2 := Lib.hid (hS.out.hlq.bel hB.out)
            have hd4 := Lib.hid hS.out.d4
            have hd12 : f ≠ lq ∧ lb ≠ lq := ⟨fun e => hS.out.d1 e.symm, fun e => hS.out.d2 e.symm⟩
            have hF12 := hS.out.f1
            have hF22 := hS.out.f2
            replace hbl := Lib.hid hbl
            have hinv2 := Lib.hid (hinv.pick (headsQ_ok hgood.out t))
            rw [hst, hp.out] at hinv2
            clear hO TH dF hst hinv hM
            obtain ⟨pk, pok, px⟩ := p
            cases pok with
            | false =>
              have hm0 : m = 0 := by
                have h1 := stepX_no (x := x) (W := g) (ALL := sumW g j) hgood.out (by rw [hp.out])
                rw [← h1]; exact hS.out.hleft.symm
              have hout : RowKit.Hid (out = all) := Lib.hid (by have := hS.out.hall; rw [hm0] at this; simpa [servedN] using this)
              clear hm0
              go_wp2_with fail
              refine hpk.out.mono ?_
              rintro e w4 ⟨tb4, ct4, rfl, F4, ht4, k4⟩
              have hQ := Lib.hid (show RunP w all (.returned (.slice ov on oc)) w4 from ⟨ov, on, oc, rfl, by rw [← hout.out]; exact hon.out, by rw [← hout.out]; exact hO2.out.kf k4 (fun q hq => by have := hd4.out q hq; simp; omega), hbl.out.trans (k4.below (fun q hq => by simp at hq; omega) hbl.out.size)⟩)
              clear F4 k4 ht4 hpk
              go_wp2_with fail
              refine bodyPost_ret (v := .slice ov on oc) (by simp [results, Try.results9, go_sem]) rfl ?_
              rw [htot2.out, hall.out]
              exact hQ.out
            | true =>
              obtain ⟨k, hk1, hk2, hk3⟩ := stepX_yes (x := x) (W := g) (ALL := sumW g j) (t := t) hgood.out (by rw [hp.out])
              rw [hp.out] at hk1
              obtain rfl : pk = (k : Int) := hk1
              go_wp2_with fail
              refine hpk.out.mono ?_
              rintro e w4 ⟨tb4, ct4, rfl, F4, ht4, k4⟩
              have hL4 := k4.blk hL2.out (by simp; omega)
              have hO4 := Lib.hid (hO2.out.kf k4 (fun q hq => by have := hd4.out q hq; simp; omega))
              have hb4 := Lib.hid (hbl.out.trans (k4.below (fun q hq => by simp at hq; omega) hbl.out.size))
              have hkz : (k : Int) < (j : Int) := by omega
              obtain ⟨htk, hqk⟩ := hS.out.hq k hk2
              have hlk := hqk.len
              have hck := hqk.cap
              have hmk := hqk.max
              rw [List.length_drop] at hlk
              obtain ⟨bk, ok, eA, hbk, hck2⟩ := hqk.row (by omega)
              have x0 := hL4.c k _ (sC_at A L C j k hk2)
              have z0 := hL4.f k
              rw [eA] at x0
              obtain ⟨Lk, eL⟩ : ∃ n, RowKit.Hid (L k = n) := ⟨_, Lib.hid rfl⟩
              obtain ⟨Ck, eC⟩ : ∃ n, RowKit.Hid (C k = n) := ⟨_, Lib.hid rfl⟩
              rw [eL.out, eC.out] at x0 hck
              rw [eL.out] at hlk
              rw [eC.out] at hmk
              have hL1 : (1 : Int) ≤ (Lk : Int) := by omega
              have hL2' : (Lk : Int) ≤ (Ck : Int) := by omega
              replace hck2 := Lib.hid hck2
              replace F4 := Lib.hid F4
              replace k4 := Lib.hid k4
              replace ht4 := Lib.hid ht4
              replace hL4 := Lib.hid hL4
              clear hpk hqk
              go_upto_region 26 with fail
              clear x0 z0
              obtain ⟨A5, eA5⟩ : ∃ a, RowKit.Hid ((if Ck = 1 then some (⟨bk, ok, none⟩ : Addr) else some ⟨bk, ok + 1, none⟩) = a) := ⟨_, Lib.hid rfl⟩
              rw [eA5.out]
              have hkb : KF [lq] w4 (w4.setCell ⟨lq, k, none⟩ (.slice A5 (Lk - 1) (Ck - 1))) := (KF.refl [lq] w4).set (p := ⟨lq, k, none⟩) (.inl (by simp)) _
              have hLQ5 : RowKit.Hid (Blk (w4.setCell ⟨lq, k, none⟩ (.slice A5 (Lk - 1) (Ck - 1))) lq (sC (upA A k A5) (upn L k (Lk - 1)) (upn C k (Ck - 1)) j)) := Lib.hid (by rw [← sC_set]; exact hL4.out.set (by rw [sC_len]; exact hk2) _)
              have hlq4 := hL4.out.l
              have hlq2 := hL2.out.l
              have hwr2 := hbl.out.size
              have ht5 : RowKit.Hid (w.heap.size ≤ tb4 ∧ lq ≠ tb4) := Lib.hid (by
                rcases ht4.out with e | e
                · rw [e]; exact ⟨hS.out.f3, hS.out.d3⟩
                · exact ⟨by omega, by omega⟩)
              have F5 := Lib.hid (hkb.fd F4.out (by simp; exact hd12.1) (by simp; exact hd12.2) (by simp; exact fun e => ht5.out.2 e.symm))
              have hO5 := Lib.hid (hO4.out.kf hkb (fun q hq => by have := hd4.out q hq; simp; omega))
              have hB5 := Lib.hid (hb4.out.setCell (p := ⟨lq, k, none⟩) (show w.heap.size ≤ lq from hS.out.f4) (.slice A5 (Lk - 1) (Ck - 1)))
              have htb4 := F4.out.tl
              have hq5 : RowKit.Hid (∀ q, (Value.slice ov on oc).ownBlock = some q → q ≠ tb4 ∧ q < w4.heap.size) := Lib.hid (fun q hq => by
                have h1 := hd4.out q hq
                refine ⟨?_, (hO4.out.lt hq).2⟩
                rcases ht4.out with e | e
                · rw [e]; exact h1.2.2.1
                · have := (hO2.out.lt hq).2; omega)
              have hIq : RowKit.Hid (∀ i, i < j → upn t k (t k + 1) i ≤ (Q i).length ∧ IAt w (upA A k A5 i) (upn L k (Lk - 1) i) (upn C k (Ck - 1) i) ((Q i).drop (upn t k (t k + 1) i))) := Lib.hid (fun i hi => by
                by_cases e : i = k
                · subst e
                  simp only [upn, upA, if_pos]
                  refine ⟨by omega, by rw [List.length_drop]; omega, by omega, by omega, fun hp => ?_⟩
                  refine ⟨bk, ok + 1, ?_, hbk, fun y z hz => ?_⟩
                  · rw [← eA5.out, if_neg (by omega)]
                  · have h1 : ((Q i).drop (t i))[y + 1]? = some z := by rw [List.getElem?_drop] at hz ⊢; rw [← hz]; congr 1; omega
                    have h2 := hck2.out (y + 1) z h1
                    rwa [show ok + (y + 1) = ok + 1 + y by omega] at h2
                · simp only [upn, upA, if_neg e]
                  exact hS.out.hq i hi)
              have hsz4 : (w4.setCell ⟨lq, k, none⟩ (.slice A5 (Lk - 1) (Ck - 1))).heap.size = w4.heap.size := by simp
              rw [← hsz4] at hlq4 htb4 hq5
              have hstepQ := leftQ_step (Q := Q) (t := t) hk3 j hk2
              have hlf := hS.out.hleft
              have hmt := hS.out.hm
              have hall2 := hS.out.hall
              have hlnO := hS.out.hln
              obtain ⟨m, rfl⟩ : ∃ m', m = m' + 1 := ⟨m - 1, by omega⟩
              simp only [servedN] at hall2
              rw [hp.out] at hall2
              simp only [if_true, Int.toNat_natCast] at hall2
              replace hall2 := Lib.hid hall2
              replace hlf := Lib.hid hlf
              replace hstepQ := Lib.hid hstepQ
              replace hlnO := Lib.hid hlnO
              have hsc := Lib.hid (⟨hS.out.f1, hS.out.f2, hS.out.f4, hS.out.d1, hS.out.d2⟩ : w.heap.size ≤ f ∧ w.heap.size ≤ lb ∧ w.heap.size ≤ lq ∧ lq ≠ f ∧ lq ≠ lb)
              clear hS F4 hL4 hO4 hb4 k4 ht4 hsz4 hkb hO2 hL2 hbl hck2
              generalize w4.setCell ⟨lq, k, none⟩ (.slice A5 (Lk - 1) (Ck - 1)) = w5 at hlq4 htb4 hq5 hLQ5 F5 hO5 hB5 ⊢
              have ha := (Below.refl w5.heap.size w5).alloc (Nat.le_refl _) (.cells #[.int .i64 (k : Nat)] 3)
              have hbk5 := Lib.hid (blkN_new w5 [.int .i64 (k : Nat)] 3)
              have hO6 := Lib.hid (hO5.out.kf (KF.of (l := []) ha) (fun q hq => by simp))
              have hszA := Lib.hid (show w.heap.size ≤ (w5.alloc (.cells #[.int .i64 (k : Nat)] 3)).heap.size by have := hB5.out.size; simp; omega)
              have hlo : out.length ≤ 1000000 := by have := hlnO.out; omega
              have hFK := Lib.hid (fun (wz : World) (hgz : (w5.alloc (.cells #[.int .i64 (k : Nat)] 3)).grownBy wz (Value.slice ov on oc).ownBlock) => (⟨F5.out.grown hgz (fun q hq => ⟨(hd4.out q hq).1, (hd4.out q hq).2.1, (hq5.out q hq).1⟩), (KF.grown2 (l := (Value.slice ov on oc).ownBlock.toList) ((KF.refl _ w5).alloc _) hgz (fun q e => by rw [e]; simp)).blk hLQ5.out (fun e => (hd4.out lq (by simpa using e)).2.2.2 rfl), (hB5.out.alloc hB5.out.size _).grown hgz hszA.out (fun q hq => (hO5.out.lt hq).1)⟩ : FD wz f lb cl tb4 ct4 j (sumW g j) px.V g px.Z px.D px.S px.F ∧ Blk wz lq (sC (upA A k A5) (upn L k (Lk - 1)) (upn C k (Ck - 1)) j) ∧ Below w.heap.size w wz))
              go_wp2_with (at_builtin; refine wpList_appZ rfl _ _ rfl w.heap.size (.slice ov on oc) out (k : Int) (by rfl) hO6.out hszA.out (by rfl) hbk5.out hlo ?_; intro a6 n6 c6 w6 hown6 hn6 hsz6 hgrow6 hor6; obtain rfl : n6 = out.length + 1 := hn6; have hown6 := Lib.hid hown6; have hor6 := Lib.hid hor6; have hK6 := Lib.hid (hFK.out w6 hgrow6); clear hsz6 hbk5 hO6 hFK hgrow6)
              go_roundg m
              case measure => omega
              case rel =>
                refine ⟨px, upn t k (t k + 1), m, out ++ [(k : Int)], a6, out.length + 1, c6, tb4, ct4, upA A k A5, upn L k (Lk - 1), upn C k (Ck - 1), rfl, by simp, Nat.le_refl _, Lib.hid ⟨hK6.out.1, ?_, by omega, ?_, ?_, ?_, hown6.out, hK6.out.2.1, hIq.out, hK6.out.2.2, hsc.out.1, hsc.out.2.1, ht5.out.1, hsc.out.2.2.1, hsc.out.2.2.2.1, hsc.out.2.2.2.2, ht5.out.2, fun q hq => ?_⟩⟩
                · have := hinv2.out
                  have e : ((total - m : Nat) : Int) * PM = ((total - (m + 1) : Nat) : Int) * PM + PM := by
                    have : total - m = total - (m + 1) + 1 := by omega
                    rw [this]
                    push_cast
                    rw [Int.add_mul, Int.one_mul]
                  rw [e]
                  exact this
                · have := hstepQ.out; have := hlf.out; omega
                · have := hall2.out
                  rw [List.append_assoc]
                  exact this
                · have := hlnO.out; simp; omega
                · rcases hor6.out with e | e
                  · rw [e] at hq
                    have h1 := hd4.out q hq
                    exact ⟨h1.1, h1.2.1, (hq5.out q hq).1, h1.2.2.2⟩
                  · rw [e] at hq
                    simp at hq
                    have h1 := F5.out.b.l
                    have h2 := F5.out.l.l
                    exact ⟨by omega, by omega, by omega, by omega⟩
end Go.Proofs.Ytbbcongfaoopcaa
namespace Go.Proofs.Ytbbcongfaoopcaa
open Go.ChangeShapes Go.WideShapes Go.ChangeAt Go.RowKit Go.Maps
set_option linter.unusedVariables false
set_option linter.unusedSimpArgs false
open BigFrame Pk Fq Vr Fa

namespace Fa
theorem leastBad (P : Nat → Prop) : ∀ N, (¬ ∀ i, i < N → P i) → ∃ m, m < N ∧ ¬ P m ∧ ∀ i, i < m → P i
  | 0, h => absurd (fun i hi => absurd hi (Nat.not_lt_zero _)) h
  | N + 1, h => by
    by_cases h2 : ∀ i, i < N → P i
    · refine ⟨N, by omega, fun q => h fun i hi => ?_, h2⟩
      by_cases e : i = N
      · subst e; exact q
      · exact h2 i (by omega)
    · obtain ⟨m, a, b, c⟩ := leastBad P N h2
      exact ⟨m, by omega, b, c⟩
def NoNew (w : World) (e : Ending) (w' : World) : Prop := e = .returned (.tuple #[.pointer none, .int .i64 2]) ∧ Below w.heap.size w w'
theorem runP_nil {w w' : World} (h : Below w.heap.size w w') : RunP w [] (.returned (.slice none 0 0)) w' := ⟨none, 0, 0, rfl, rfl, OwnZ.nil _ _, h⟩
def newOk (dw : List Int) : Prop := 1 ≤ dw.length ∧ dw.length ≤ 8 ∧ ∀ x, x ∈ dw → 1 ≤ x ∧ x ≤ 16
def gd (dw : List Int) : Nat → Int := fun i => dw.getD i 0
def runOk (dw : List Int) (nq : Nat) (Q : Nat → List Int) : Prop := newOk dw ∧ nq = dw.length ∧ goodQ Q nq ∧ leftQ Q t0 nq ≤ 1000
open Classical in
noncomputable def runR (dw : List Int) (nq : Nat) (Q : Nat → List Int) : List Int := if runOk dw nq Q then servedN nq (sumW (gd dw) nq) (gd dw) Q (leftQ Q t0 nq) sched0 t0 else []
theorem gd_at {dw : List Int} {i : Nat} (h : i < dw.length) : dw[i]? = some (gd dw i) := by
  unfold gd
  rw [List.getD_eq_getElem?_getD, List.getElem?_eq_getElem h]
  rfl
theorem gd_mem {dw : List Int} {i : Nat} (h : i < dw.length) : gd dw i ∈ dw := List.mem_of_getElem? (gd_at h)
end Fa

set_option maxRecDepth 100000 in
set_option maxHeartbeats 4000000 in
theorem frun_nonew (w : World) (a a2 : Option Addr) (n c n2 c2 : Nat) (hnew : Calls Try.prog 11 #[.slice a n c] w (NoNew w)) :
    Calls Try.prog 9 #[.slice a n c, .slice a2 n2 c2] w (RunP w []) := by
  replace hnew := Lib.hid hnew
  go_enter Try.func9, Try.ntmps9
  go_wp2_with fail
  refine hnew.out.mono ?_
  rintro e w1 ⟨rfl, hB1⟩
  replace hB1 := Lib.hid hB1
  clear hnew
  go_wp2_with fail
  exact bodyPost_ret (v := .slice none 0 0) (by simp [results, Try.results9, go_sem]) rfl (runP_nil hB1.out)

set_option maxRecDepth 100000 in
set_option maxHeartbeats 4000000 in
theorem frun_len (w : World) (a2 : Option Addr) (b off N c n2 c2 : Nat) (g : Nat → Int) (h1 : 1 ≤ N) (h8 : N ≤ 8) (hb : b < w.heap.size) (hc : ∀ i, i < N → w.cell? ⟨b, off + i, none⟩ = some (.int .i64 (g i))) (hg : ∀ i, i < N → 1 ≤ g i ∧ g i ≤ 16) (hne : n2 ≠ N) :
    Calls Try.prog 9 #[.slice (some ⟨b, off, none⟩) N c, .slice a2 n2 c2] w (RunP w []) := by
  have hnew := Lib.hid (fnew_ok w b off N c g h1 h8 hb hc hg)
  have hne2 : ¬ (n2 : Int) = (N : Int) := by omega
  clear hc hg hne
  go_enter Try.func9, Try.ntmps9
  go_wp2_with fail
  refine hnew.out.mono ?_
  rintro e w1 ⟨f, lb, cl, tb, ct, rfl, hF, hf1, hf2, hf3, hB1⟩
  replace hB1 := Lib.hid hB1
  clear hnew hF
  go_wp2_with fail
  exact bodyPost_ret (v := .slice none 0 0) (by simp [results, Try.results9, go_sem]) rfl (runP_nil hB1.out)

set_option maxRecDepth 100000 in
set_option maxHeartbeats 20000000 in
theorem frun_bad (w : World) (b off N c c2 b2 off2 : Nat) (g : Nat → Int) (a2 : Option Addr) (A : Nat → Option Addr) (L C : Nat → Nat) (Q : Nat → List Int) (h1 : 1 ≤ N) (h8 : N ≤ 8) (hb : b < w.heap.size) (hc : ∀ i, i < N → w.cell? ⟨b, off + i, none⟩ = some (.int .i64 (g i))) (hg : ∀ i, i < N → 1 ≤ g i ∧ g i ≤ 16)
    (T : QsAt w a2 b2 off2 N A L C Q) (hl : ∀ i, i < N → L i ≤ 200) (hno : ¬ (goodQ Q N ∧ leftQ Q t0 N ≤ 1000)) :
    Calls Try.prog 9 #[.slice (some ⟨b, off, none⟩) N c, .slice a2 N c2] w (RunP w []) := by
  have hN1 : (1 : Int) ≤ (N : Int) := by omega
  have hN8 : (N : Int) ≤ 8 := by omega
  have hnew := Lib.hid (fnew_ok w b off N c g h1 h8 hb hc hg)
  obtain rfl := T.ha (by omega)
  have hb2 := T.hb (by omega)
  replace T := Lib.hid T
  replace hno := Lib.hid hno
  replace hg := Lib.hid hg
  replace hl := Lib.hid hl
  clear hc
  go_enter Try.func9, Try.ntmps9
  go_wp2_with fail
  refine hnew.out.mono ?_
  rintro e w1 ⟨f, lb, cl, tb, ct, rfl, hF, hf1, hf2, hf3, hB1⟩
  have T1 := Lib.hid (T.out.bel hB1)
  replace hF := Lib.hid hF
  replace hB1 := Lib.hid hB1
  clear hnew
  go_wp2_with fail
  go_loopw [4, 7, 9, 33] (fun s4 s7 _ s33 wr => ∃ (i : Nat), s4 = .slice none 0 0 ∧ s7 = .int .i64 ((leftQ Q t0 i : Nat) : Int) ∧ s33 = .int .i64 (i : Nat) ∧ i ≤ N ∧ wr = w1 ∧ RowKit.Hid (goodQ Q i ∧ leftQ Q t0 i ≤ 1000)) (fun _ _ _ s33 _ => N - (intOf s33).toNat)
  case atStart => exact ⟨0, rfl, rfl, rfl, Nat.zero_le _, rfl, Lib.hid ⟨fun i hi => by omega, by simp [leftQ]⟩⟩
  case round =>
    obtain ⟨i, rfl, rfl, rfl, hi, rfl, hgq⟩ := hrel
    have ii : (i : Int) ≤ (N : Int) := by omega
    by_cases hlt : i < N
    · have ii1 : (i : Int) < (N : Int) := by omega
      have x0 := T1.out.c0 i hlt
      have hq := T1.out.q i hlt
      have hlen := hq.len
      have hcap := hq.cap
      have hmax := hq.max
      have hli := hl.out i hlt
      have hs1 := hgq.out.2
      have hstep : leftQ Q t0 (i + 1) = leftQ Q t0 i + L i := by simp only [leftQ, t0]; omega
      have hcont := scontains_c (A i) (L i) (C i) (Q i) wr hq (by omega)
      obtain ⟨bad, hbad⟩ : ∃ bad, (!decide (∀ x, x ∈ Q i → sizeBad x = false)) = bad := ⟨_, rfl⟩
      rw [hbad] at hcont
      replace hcont := Lib.hid hcont
      have hgood2 : RowKit.Hid (bad = false → goodQ Q (i + 1)) := Lib.hid (fun e => by
        rw [e] at hbad
        have h2 : ∀ x, x ∈ Q i → sizeBad x = false := by simpa using hbad
        intro k hk x hx
        by_cases e : k = i
        · subst e; exact sizeOk.1 (h2 x hx)
        · exact hgq.out.1 k (by omega) x hx)
      obtain ⟨Li, eL⟩ : ∃ n, L i = n := ⟨_, rfl⟩
      obtain ⟨Ci, eC⟩ : ∃ n, C i = n := ⟨_, rfl⟩
      obtain ⟨Ai, eA⟩ : ∃ n, A i = n := ⟨_, rfl⟩
      obtain ⟨S, eS⟩ : ∃ n, leftQ Q t0 i = n := ⟨_, rfl⟩
      rw [eL, eC] at hcap
      rw [eC] at hmax
      rw [eL] at hli
      rw [eS] at hs1
      rw [eL, eC, eA] at hcont x0
      rw [eS, eL] at hstep
      replace hstep := Lib.hid hstep
      clear hq hbad eL eC eA hlen
      rw [eS]
      clear eS
      by_cases hbig : S + Li ≤ 1000
      · have hle : ((S : Nat) : Int) + (Li : Int) ≤ 1000 := by omega
        cases bad with
        | false =>
          go_wp2_with fail
          refine hcont.out.mono ?_
          rintro e w' ⟨rfl, rfl⟩
          go_wp2_with fail
          go_roundw
          case rel => exact ⟨i + 1, rfl, by rw [hstep.out]; push_cast; rfl, by go_num, hlt, by first | rfl | trivial, Lib.hid ⟨hgood2.out (by first | rfl | trivial), by have := hstep.out; omega⟩⟩
          case measure => simp [intOf]; omega
        | true =>
          go_wp2_with fail
          refine hcont.out.mono ?_
          rintro e w' ⟨rfl, rfl⟩
          go_wp2_with fail
          exact bodyPost_ret (v := .slice none 0 0) (by simp [results, Try.results9, go_sem]) rfl (runP_nil hB1.out)
      · have hle : 1000 < ((S : Nat) : Int) + (Li : Int) := by omega
        have hle2 : ((S : Nat) : Int) + (Li : Int) ≤ 1200 := by omega
        go_wp2_with fail
        exact bodyPost_ret (v := .slice none 0 0) (by simp [results, Try.results9, go_sem]) rfl (runP_nil hB1.out)
    · obtain rfl : i = N := by omega
      exact absurd hgq.out hno.out
theorem frun_c (w : World) (aw a2 : Option Addr) (nw cw nq c2 b2 off2 : Nat) (dw : List Int) (A : Nat → Option Addr) (L C : Nat → Nat) (Q : Nat → List Int) (Wt : IAt w aw nw cw dw) (T : QsAt w a2 b2 off2 nq A L C Q) (hl : ∀ i, i < nq → L i ≤ 200) :
    Calls Try.prog 9 #[.slice aw nw cw, .slice a2 nq c2] w (RunP w (runR dw nq Q)) := by
  have hlen := Wt.len
  unfold runR
  by_cases hlw : dw.length < 1 ∨ 8 < dw.length
  · rw [if_neg (fun q => by have := q.1.1; have := q.1.2.1; omega)]
    exact frun_nonew w aw a2 nw cw nq c2 (fnew_len w aw nw cw (by omega))
  · obtain ⟨b, off, rfl, hb, hc⟩ := Wt.row (by omega)
    have hc2 : ∀ i, i < nw → w.cell? ⟨b, off + i, none⟩ = some (.int .i64 (gd dw i)) := fun i hi => hc i _ (gd_at (by omega))
    by_cases hgood : ∀ i, i < nw → 1 ≤ gd dw i ∧ gd dw i ≤ 16
    · have hnok : newOk dw := ⟨by omega, by omega, fun x hx => by
        obtain ⟨i, hi, rfl⟩ := List.getElem_of_mem hx
        have := hgood i (by omega)
        have e := gd_at hi
        rw [List.getElem?_eq_getElem hi] at e
        injection e with e
        rw [e]; exact this⟩
      by_cases hnq : nq = nw
      · subst hnq
        by_cases hq : goodQ Q nq ∧ leftQ Q t0 nq ≤ 1000
        · rw [if_pos ⟨hnok, hlen.symm, hq.1, hq.2⟩]
          exact frun_ok w b off nq cw c2 b2 off2 (gd dw) a2 A L C Q (by omega) (by omega) hb hc2 hgood T hq.1 hq.2
        · rw [if_neg (fun q => hq q.2.2)]
          exact frun_bad w b off nq cw c2 b2 off2 (gd dw) a2 A L C Q (by omega) (by omega) hb hc2 hgood T hl hq
      · rw [if_neg (fun q => hnq (by rw [q.2.1, hlen]))]
        exact frun_len w a2 b off nw cw nq c2 (gd dw) (by omega) (by omega) hb hc2 hgood hnq
    · rw [if_neg (fun q => hgood (fun i hi => q.1.2.2 _ (gd_mem (by omega))))]
      refine frun_nonew w _ a2 nw cw nq c2 ?_
      obtain ⟨m, hm, hbad, hmin⟩ := leastBad (fun i => 1 ≤ gd dw i ∧ gd dw i ≤ 16) nw hgood
      exact fnew_bad w b off nw cw (gd dw) (by omega) (by omega) hb hc2 m hm hmin (by omega)
end Go.Proofs.Ytbbcongfaoopcaa
namespace Go.Proofs.Ytbbcongfaoopcaa
open Go.ChangeShapes Go.WideShapes Go.ChangeAt Go.RowKit Go.Maps
set_option linter.unusedVariables false
set_option linter.unusedSimpArgs false
open BigFrame Pk Fq Vr Fa

namespace Fa
def qf (l : List (List Int)) : Nat → List Int := fun i => l.getD i []
theorem ex_one : servedN 2 (sumW (gd [1, 1]) 2) (gd [1, 1]) (qf [[10, 10], [10, 10]]) 4 sched0 t0 = [0, 1, 0, 1] := by decide +kernel
theorem ex_two : servedN 2 (sumW (gd [3, 1]) 2) (gd [3, 1]) (qf [[10, 10, 10], [10, 10]]) 5 sched0 t0 = [0, 1, 0, 0, 1] := by decide +kernel
theorem run_one : runR [1, 1] 2 (qf [[10, 10], [10, 10]]) = [0, 1, 0, 1] := by
  unfold runR
  rw [if_pos ⟨⟨by decide, by decide, by decide⟩, rfl, fun i hi x hx => by
    rcases (show i = 0 ∨ i = 1 by omega) with rfl | rfl <;> simp [qf] at hx <;> omega, by decide +kernel⟩]
  exact ex_one
theorem run_two : runR [3, 1] 2 (qf [[10, 10, 10], [10, 10]]) = [0, 1, 0, 0, 1] := by
  unfold runR
  rw [if_pos ⟨⟨by decide, by decide, by decide⟩, rfl, fun i hi x hx => by
    rcases (show i = 0 ∨ i = 1 by omega) with rfl | rfl <;> simp [qf] at hx <;> omega, by decide +kernel⟩]
  exact ex_two
theorem run_none : runR [1] 0 (qf []) = [] := by
  unfold runR
  rw [if_neg (fun q => by have := q.2.1; simp at this)]
theorem iat_blk {w : World} {b n c : Nat} {d : List Int} (h : Blk w b (zC d)) (hn : d.length = n) (hc : n ≤ c) (hm : c ≤ 9223372036854775807) : IAt w (some ⟨b, 0, none⟩) n c d :=
  ⟨hn, hc, hm, fun _ => ⟨b, 0, rfl, h.l, fun i x hx => by rw [Nat.zero_add]; exact h.c i _ (zC_at hx)⟩⟩
/-- Ints are read so. -/
structure IRd (w : World) (a : Option Addr) (n : Nat) (d : List Int) : Prop where
  len : d.length = n
  max : n ≤ 9223372036854775807
  row : 0 < n → ∃ b off, a = some ⟨b, off, none⟩ ∧ b < w.heap.size ∧ ∀ i x, d[i]? = some x → w.cell? ⟨b, off + i, none⟩ = some (.int .i64 x)
theorem IAt.rd {w : World} {a : Option Addr} {n c : Nat} {d : List Int} (h : IAt w a n c d) : IRd w a n d := ⟨h.len, Nat.le_trans h.cap h.max, h.row⟩
theorem IRd.bel {w w' : World} {a : Option Addr} {n : Nat} {d : List Int} (h : IRd w a n d) (k : Below w.heap.size w w') : IRd w' a n d :=
  ⟨h.len, h.max, fun hn => by
    obtain ⟨b, off, rfl, hb, hc⟩ := h.row hn
    exact ⟨b, off, rfl, Nat.lt_of_lt_of_le hb k.size, fun i x hx => (k.cell (p := ⟨b, off + i, none⟩) hb).trans (hc i x hx)⟩⟩
theorem OwnZ.rd {w : World} {B : Nat} {a : Option Addr} {n c : Nat} {l : List Int} (h : OwnZ w B (.slice a n c) l) (hn : n = l.length) (hm : l.length ≤ 9223372036854775807) : IRd w a n l := by
  refine ⟨hn.symm, by omega, fun h0 => ?_⟩
  subst hn
  unfold OwnZ at h
  obtain ⟨g, cap, e, hb, hl⟩ := h.form h0
  cases e
  refine ⟨g, 0, rfl, hl, fun i x hx => ?_⟩
  have hi : i < l.length := (List.getElem?_eq_some_iff.1 hx).1
  rw [Nat.zero_add, h.cellAt i (by omega)]
  exact zC_at hx
def lit3 (w : World) (d0 d1 d2 : List Int) (ti tq : TypeId) : World :=
  (((w.alloc (.cells (zC d0).toArray ti)).alloc (.cells (zC d1).toArray ti)).alloc (.cells (zC d2).toArray ti)).alloc (.cells #[.slice (some ⟨w.heap.size + 1, 0, none⟩) d1.length d1.length, .slice (some ⟨w.heap.size + 1 + 1, 0, none⟩) d2.length d2.length] tq)
theorem lit3_ok (w : World) (d0 d1 d2 : List Int) (ti tq : TypeId) (h0 : d0.length ≤ 1000) (h1 : d1.length ≤ 1000) (h2 : d2.length ≤ 1000) :
    IAt (lit3 w d0 d1 d2 ti tq) (some ⟨w.heap.size, 0, none⟩) d0.length d0.length d0 ∧
    QsAt (lit3 w d0 d1 d2 ti tq) (some ⟨w.heap.size + 1 + 1 + 1, 0, none⟩) (w.heap.size + 1 + 1 + 1) 0 2 (fun i => if i = 0 then some ⟨w.heap.size + 1, 0, none⟩ else some ⟨w.heap.size + 1 + 1, 0, none⟩) (fun i => if i = 0 then d1.length else d2.length) (fun i => if i = 0 then d1.length else d2.length) (qf [d1, d2]) ∧
    Below w.heap.size w (lit3 w d0 d1 d2 ti tq) := by
  unfold lit3
  have b0 := blkN_new w (zC d0) ti
  have k0 := (Below.refl w.heap.size w).alloc (Nat.le_refl _) (.cells (zC d0).toArray ti)
  have s0 : (w.alloc (.cells (zC d0).toArray ti)).heap.size = w.heap.size + 1 := by simp
  generalize w.alloc (.cells (zC d0).toArray ti) = w0 at b0 k0 s0 ⊢
  have b1 := blkN_new w0 (zC d1) ti
  have k1 := (Below.refl w0.heap.size w0).alloc (Nat.le_refl _) (.cells (zC d1).toArray ti)
  have s1 : (w0.alloc (.cells (zC d1).toArray ti)).heap.size = w0.heap.size + 1 := by simp
  generalize w0.alloc (.cells (zC d1).toArray ti) = w1 at b1 k1 s1 ⊢
  have b2 := blkN_new w1 (zC d2) ti
  have k2 := (Below.refl w1.heap.size w1).alloc (Nat.le_refl _) (.cells (zC d2).toArray ti)
  have s2 : (w1.alloc (.cells (zC d2).toArray ti)).heap.size = w1.heap.size + 1 := by simp
  generalize w1.alloc (.cells (zC d2).toArray ti) = w2 at b2 k2 s2 ⊢
  have b3 := blkN_new w2 [.slice (some ⟨w.heap.size + 1, 0, none⟩) d1.length d1.length, .slice (some ⟨w.heap.size + 1 + 1, 0, none⟩) d2.length d2.length] tq
  have k3 := (Below.refl w2.heap.size w2).alloc (Nat.le_refl _) (.cells [.slice (some ⟨w.heap.size + 1, 0, none⟩) d1.length d1.length, .slice (some ⟨w.heap.size + 1 + 1, 0, none⟩) d2.length d2.length].toArray tq)
  rw [s2, s1, s0] at b3
  rw [s1, s0] at b2
  rw [s0] at b1
  have b0' := ((b0.bel k1).bel k2).bel k3
  have b1' := (b1.bel k2).bel k3
  have b2' := b2.bel k3
  refine ⟨iat_blk b0' rfl (Nat.le_refl _) (by omega), ⟨fun _ => rfl, fun _ => b3.l, fun i hi => ?_, fun i hi => ?_⟩, ?_⟩
  · rcases (show i = 0 ∨ i = 1 by omega) with rfl | rfl
    · exact b3.c 0 _ rfl
    · exact b3.c 1 _ rfl
  · rcases (show i = 0 ∨ i = 1 by omega) with rfl | rfl
    · exact iat_blk b1' rfl (Nat.le_refl _) (by show d1.length ≤ _; omega)
    · exact iat_blk b2' rfl (Nat.le_refl _) (by show d2.length ≤ _; omega)
  · exact bNext (bNext (bNext k0 k1 (by omega)) k2 (by omega)) k3 (by omega)
/-- The same ints? -/
theorem row_end {d1 d2 : List Int} {n : Nat} (h1 : d1.length = n) (h2 : d2.length = n) (h : ∀ i, i < n → d1[i]? = d2[i]?) : d1 = d2 := by
  apply List.ext_getElem?
  intro i
  by_cases hi : i < n
  · exact h i hi
  · rw [List.getElem?_eq_none (by omega), List.getElem?_eq_none (by omega)]
end Fa

set_option maxRecDepth 100000 in
set_option maxHeartbeats 4000000 in
theorem row_c (w : World) (a1 a2 : Option Addr) (n1 c1 n2 c2 : Nat) (d1 d2 : List Int) (T1 : IRd w a1 n1 d1) (T2 : IRd w a2 n2 d2) :
    Calls Try.prog 8 #[.slice a1 n1 c1, .slice a2 n2 c2] w fun e w' => e = .returned (.bool (decide (d1 = d2))) ∧ Below w.heap.size w w' := by
  have hl1 := T1.len
  have hl2 := T2.len
  have hm1 := T1.max
  have hm2 := T2.max
  replace T1 := Lib.hid T1
  replace T2 := Lib.hid T2
  by_cases hn : n1 = n2
  · subst hn
    have hnz : (n1 : Int) ≤ 9223372036854775807 := by omega
    replace hl1 := Lib.hid hl1
    replace hl2 := Lib.hid hl2
    go_enter Try.func8, Try.ntmps8
    go_wp2_with fail
    go_loopw [5] (fun s3 wr => ∃ kk : Nat, kk ≤ n1 ∧ s3 = .int .i64 (kk : Nat) ∧ Below w.heap.size w wr ∧ RowKit.Hid (∀ i, i < kk → d1[i]? = d2[i]?)) (fun s3 _ => n1 - (intOf s3).toNat)
    case atStart => exact ⟨0, Nat.zero_le _, rfl, Below.refl _ _, Lib.hid (fun i hi => by omega)⟩
    case round =>
      obtain ⟨kk, hkk, rfl, hBr, hsame⟩ := hrel
      by_cases hlt : kk < n1
      · have hltz : (kk : Int) < (n1 : Int) := by omega
        obtain ⟨b1, o1, rfl, hb1, r1⟩ := (T1.out.bel hBr).row (by omega)
        obtain ⟨b2, o2, rfl, hb2, r2⟩ := (T2.out.bel hBr).row (by omega)
        obtain ⟨x, hx⟩ : ∃ x, d1[kk]? = some x := ⟨_, List.getElem?_eq_getElem (by have := hl1.out; omega)⟩
        obtain ⟨y, hy⟩ : ∃ y, d2[kk]? = some y := ⟨_, List.getElem?_eq_getElem (by have := hl2.out; omega)⟩
        have x0 := r1 kk x hx
        have y0 := r2 kk y hy
        replace hx := Lib.hid hx
        replace hy := Lib.hid hy
        clear r1 r2
        by_cases hxy : x = y
        · subst hxy
          go_wp2_with fail
          go_big_quiet (fail)
          go_wp2_with fail
          go_roundw
          case rel =>
            refine ⟨kk + 1, by omega, by go_num, bDrew hBr nq, Lib.hid (fun i hi => ?_)⟩
            by_cases e : i = kk
            · subst e; rw [hx.out, hy.out]
            · exact hsame.out i (by omega)
          case measure => simp [intOf]; omega
        · have hd : RowKit.Hid (decide (d1 = d2) = false) := Lib.hid (decide_eq_false (fun q => hxy (by have h1 := hx.out; have h2 := hy.out; rw [q, h2] at h1; injection h1 with h1; exact h1.symm)))
          go_wp2_with fail
          go_big_quiet (fail)
          go_wp2_with fail
          refine bodyPost_ret (v := .bool false) (by simp [results, Try.results8, go_sem]) rfl ⟨by rw [hd.out], bDrew hBr nq⟩
      · obtain rfl : kk = n1 := by omega
        have hltz : ¬ (kk : Int) < (kk : Int) := by omega
        have hd : RowKit.Hid (decide (d1 = d2) = true) := Lib.hid (decide_eq_true (row_end hl1.out hl2.out hsame.out))
        go_wp2_with fail
        refine bodyPost_ret (v := .bool true) (by simp [results, Try.results8, go_sem]) rfl ⟨by rw [hd.out], hBr⟩
  · have hnz : ¬ (n1 : Int) = (n2 : Int) := by omega
    have hd : RowKit.Hid (decide (d1 = d2) = false) := Lib.hid (decide_eq_false (fun q => hn (by rw [← hl1, ← hl2, q])))
    clear hn hl1 hl2
    go_enter Try.func8, Try.ntmps8
    go_wp2_with fail
    refine bodyPost_ret (v := .bool false) (by simp [results, Try.results8, go_sem]) rfl ⟨by rw [hd.out], Below.refl _ _⟩
set_option maxRecDepth 100000 in
set_option maxHeartbeats 8000000 in
theorem wakes26_c (w : World) : Calls Try.prog 7 #[] w fun e w' => e = .returned (.bool true) ∧ Below w.heap.size w w' := by
  go_enter Try.func7, Try.ntmps7
  obtain ⟨I0, Q0, B0⟩ := lit3_ok w [1, 1] [10, 10] [10, 10] 3 22 (by decide) (by decide) (by decide)
  have hr := frun_c _ _ _ _ _ _ 2 _ _ _ _ _ _ _ I0 Q0 (fun i hi => by rcases (show i = 0 ∨ i = 1 by omega) with rfl | rfl <;> decide)
  rw [run_one] at hr
  have hB0 := Lib.hid B0
  replace hr := Lib.hid hr
  clear I0 Q0 B0
  go_wp2_with fail
  refine hr.out.mono ?_
  rintro e w1 ⟨a1, n1, c1, rfl, hn1, hO1, hB1⟩
  have hB1' := Lib.hid (hB0.out.trans (hB1.mono hB0.out.size))
  have R1 := Lib.hid (hO1.rd hn1 (by decide))
  clear hr hO1 hn1 hB1 hB0
  have ha := (Below.refl w1.heap.size w1).alloc (Nat.le_refl _) (.cells (zC [0, 1, 0, 1]).toArray 3)
  have hw := row_c (w1.alloc (.cells (zC [0, 1, 0, 1]).toArray 3)) _ (some ⟨w1.heap.size, 0, none⟩) _ c1 4 4 [0, 1, 0, 1] [0, 1, 0, 1] (R1.out.bel ha) (iat_blk (blkN_new w1 (zC [0, 1, 0, 1]) 3) (by rfl) (Nat.le_refl _) (by decide)).rd
  rw [decide_eq_true rfl] at hw
  have hB2 := Lib.hid (hB1'.out.alloc hB1'.out.size (.cells (zC [0, 1, 0, 1]).toArray 3))
  replace hw := Lib.hid hw
  clear ha R1
  go_wp2_with fail
  refine hw.out.mono ?_
  rintro e w2 ⟨rfl, hb⟩
  have hB2' := Lib.hid (hB2.out.trans (hb.mono hB2.out.size))
  clear hw hb
  obtain ⟨I0, Q0, B0⟩ := lit3_ok w2 [3, 1] [10, 10, 10] [10, 10] 3 22 (by decide) (by decide) (by decide)
  have hr := frun_c _ _ _ _ _ _ 2 _ _ _ _ _ _ _ I0 Q0 (fun i hi => by rcases (show i = 0 ∨ i = 1 by omega) with rfl | rfl <;> decide)
  rw [run_two] at hr
  have hB0 := Lib.hid (hB2'.out.trans (B0.mono hB2'.out.size))
  replace hr := Lib.hid hr
  clear I0 Q0 B0
  go_wp2_with fail
  refine hr.out.mono ?_
  rintro e w3 ⟨a3, n3, c3, rfl, hn3, hO3, hB3⟩
  have hB3' := Lib.hid (hB0.out.trans (hB3.mono hB0.out.size))
  have R3 := Lib.hid (hO3.rd hn3 (by decide))
  clear hr hO3 hn3 hB3 hB0
  have ha := (Below.refl w3.heap.size w3).alloc (Nat.le_refl _) (.cells (zC [0, 1, 0, 0, 1]).toArray 3)
  have hw := row_c (w3.alloc (.cells (zC [0, 1, 0, 0, 1]).toArray 3)) _ (some ⟨w3.heap.size, 0, none⟩) _ c3 5 5 [0, 1, 0, 0, 1] [0, 1, 0, 0, 1] (R3.out.bel ha) (iat_blk (blkN_new w3 (zC [0, 1, 0, 0, 1]) 3) (by rfl) (Nat.le_refl _) (by decide)).rd
  rw [decide_eq_true rfl] at hw
  have hB4 := Lib.hid (hB3'.out.alloc hB3'.out.size (.cells (zC [0, 1, 0, 0, 1]).toArray 3))
  replace hw := Lib.hid hw
  clear ha R3
  go_wp2_with fail
  refine hw.out.mono ?_
  rintro e w4 ⟨rfl, hb⟩
  have hB4' := Lib.hid (hB4.out.trans (hb.mono hB4.out.size))
  clear hw hb
  have ha := (Below.refl w4.heap.size w4).alloc (Nat.le_refl _) (.cells (zC [1]).toArray 3)
  have hr := frun_c (w4.alloc (.cells (zC [1]).toArray 3)) (some ⟨w4.heap.size, 0, none⟩) none 1 1 0 0 0 0 [1] (fun _ => none) (fun _ => 0) (fun _ => 0) (qf []) (iat_blk (blkN_new w4 (zC [1]) 3) (by rfl) (Nat.le_refl _) (by decide)) ⟨fun h => absurd h (by decide), fun h => absurd h (by decide), fun i hi => absurd hi (by omega), fun i hi => absurd hi (by omega)⟩ (fun i hi => absurd hi (by omega))
  rw [run_none] at hr
  have hB0 := Lib.hid (hB4'.out.alloc hB4'.out.size (.cells (zC [1]).toArray 3))
  replace hr := Lib.hid hr
  clear ha
  go_wp2_with fail
  refine hr.out.mono ?_
  rintro e w5 ⟨a5, n5, c5, rfl, hn5, hO5, hB5⟩
  obtain rfl : n5 = 0 := hn5
  have hB5' := Lib.hid (hB0.out.trans (hB5.mono hB0.out.size))
  clear hr hO5 hB5 hB0
  go_wp2_with fail
  exact bodyPost_ret (v := .bool true) (by simp [results, Try.results7, go_sem]) rfl ⟨rfl, hB5'.out⟩
end Go.Proofs.Ytbbcongfaoopcaa
namespace Go.Proofs.Ytbbcongfaoopcaa
open Go.ChangeShapes Go.WideShapes Go.ChangeAt Go.RowKit Go.Maps
set_option linter.unusedVariables false
set_option linter.unusedSimpArgs false
open BigFrame Pk Fq Vr Fa

namespace Fa
open Classical in
noncomputable def errNew (dw : List Int) : Int := if newOk dw then 0 else 2
end Fa
/-- New made, or refused, whatever it is given. -/
theorem fnew_c (w : World) (aw : Option Addr) (nw cw : Nat) (dw : List Int) (Wt : IAt w aw nw cw dw) :
    (newOk dw ∧ Calls Try.prog 11 #[.slice aw nw cw] w (NewF nw (gd dw) w)) ∨ (¬ newOk dw ∧ Calls Try.prog 11 #[.slice aw nw cw] w (NoNew w)) := by
  have hlen := Wt.len
  by_cases hlw : dw.length < 1 ∨ 8 < dw.length
  · exact .inr ⟨fun q => by have := q.1; have := q.2.1; omega, fnew_len w aw nw cw (by omega)⟩
  · obtain ⟨b, off, rfl, hb, hc⟩ := Wt.row (by omega)
    have hc2 : ∀ i, i < nw → w.cell? ⟨b, off + i, none⟩ = some (.int .i64 (gd dw i)) := fun i hi => hc i _ (gd_at (by omega))
    by_cases hgood : ∀ i, i < nw → 1 ≤ gd dw i ∧ gd dw i ≤ 16
    · exact .inl ⟨⟨by omega, by omega, fun x hx => by
        obtain ⟨i, hi, rfl⟩ := List.getElem_of_mem hx
        have := hgood i (by omega)
        have e := gd_at hi
        rw [List.getElem?_eq_getElem hi] at e
        injection e with e
        rw [e]; exact this⟩, fnew_ok w b off nw cw (gd dw) (by omega) (by omega) hb hc2 hgood⟩
    · obtain ⟨m, hm, hbad, hmin⟩ := leastBad (fun i => 1 ≤ gd dw i ∧ gd dw i ≤ 16) nw hgood
      exact .inr ⟨fun q => hgood (fun i hi => q.2.2 _ (gd_mem (by omega))), fnew_bad w b off nw cw (gd dw) (by omega) (by omega) hb hc2 m hm hmin (by omega)⟩

structure XT_Lint where
  a : Option Addr
  n : Nat
  c : Nat
  d : List Int
def Is_Lint (w : World) (v : Value) (x : XT_Lint) : Prop := v = .slice x.a x.n x.c ∧ IAt w x.a x.n x.c x.d
structure XT_LLint where
  a : Option Addr
  b : Nat
  off : Nat
  n : Nat
  c : Nat
  A : Nat → Option Addr
  L : Nat → Nat
  C : Nat → Nat
  Q : Nat → List Int
def Is_LLint (w : World) (v : Value) (x : XT_LLint) : Prop := v = .slice x.a x.n x.c ∧ x.n ≤ x.c ∧ x.c ≤ 9223372036854775807 ∧ QsAt w x.a x.b x.off x.n x.A x.L x.C x.Q
section
variable {H : Type} {enc : TypeId × Value → H} {w : World}
set_option maxRecDepth 100000 in
theorem open_ints {n : Nat} {u : Value} {z : DataW H × List MemPlace} (h : DataW.trod enc Try.prog w 0 (fun _ => true) true n 22 [u] = some z) :
    ∃ a l c d, u = .slice a l c ∧ IAt w a l c d := by
  have k1 : Try.prog.cellsOf 3 = 1 := by kernel_rfl
  obtain ⟨a, len, cap, rfl, hl, hm, hrow⟩ := open_rowsN Try.underlying22 h (by rw [k1]; omega)
  rw [k1] at hrow
  unfold maxLen at hm
  by_cases hp : 0 < len
  · obtain ⟨b, off, V, n, rfl, hb, hV⟩ := hrow hp
    refine ⟨_, len, cap, (List.range len).map (fun i => RowKit.intOf ((V i).getD 0 undef)), rfl, by simp, hl, hm, fun _ => ⟨b, off, rfl, hb, fun i x hx => ?_⟩⟩
    have hi : i < len := by have := (List.getElem?_eq_some_iff.1 hx).1; simpa using this
    simp [hi] at hx
    subst hx
    obtain ⟨q1, q2, z, q3⟩ := hV i (by omega)
    obtain ⟨x, hx⟩ : ∃ x, V i = [x] := List.length_eq_one_iff.1 q1
    rw [hx] at q2 q3
    obtain ⟨e4, f4⟩ := trod_int' Try.underlying3 q3
    have hc := q2 0 x rfl
    have hg : RowKit.intOf ((V i)[0]?.getD undef) = RowKit.intOf x := by rw [hx]; rfl
    rw [hg]
    rw [e4] at hc
    simpa using hc
  · obtain rfl : len = 0 := by omega
    exact ⟨a, 0, cap, [], rfl, IAt.nil _ _ _ hm⟩
set_option maxRecDepth 100000 in
theorem open_Lint {r : Reach} {b0 : Nat} {v : Value} {d : DataW H} {p : List MemPlace} (hv : Value.okWide Try.prog w r b0 22 v) (h : DataW.Trod enc Try.prog w 0 (fun _ => true) true 22 v d p) : ∃ x, Is_Lint w v x := by
  obtain ⟨a0, len0, cap0, rfl⟩ := okWide_slice Try.underlying22 hv
  obtain ⟨fuel, hf⟩ := h
  obtain ⟨a, len, cap, l, he, h1⟩ := open_ints (u := .slice a0 len0 cap0) hf
  cases he
  exact ⟨⟨a0, len0, cap0, l⟩, rfl, h1⟩
set_option maxRecDepth 100000 in
theorem open_LLint {r : Reach} {b0 : Nat} {v : Value} {d : DataW H} {p : List MemPlace} (hv : Value.okWide Try.prog w r b0 23 v) (h : DataW.Trod enc Try.prog w 0 (fun _ => true) true 23 v d p) : ∃ x, Is_LLint w v x := by
  obtain ⟨a0, len0, cap0, rfl⟩ := okWide_slice Try.underlying23 hv
  obtain ⟨fuel, hf⟩ := h
  have k1 : Try.prog.cellsOf 22 = 1 := by kernel_rfl
  obtain ⟨a, len, cap, he, hl, hm, hrow⟩ := open_rowsN (u := .slice a0 len0 cap0) Try.underlying23 hf (by rw [k1]; omega)
  cases he
  rw [k1] at hrow
  unfold maxLen at hm
  by_cases hp : 0 < len0
  · obtain ⟨b, off, V, n, rfl, hb, hV⟩ := hrow hp
    have hE : ∀ i, ∃ q : Option Addr × Nat × Nat × List Int, i < cap0 → w.cell? ⟨b, off + i, none⟩ = some (.slice q.1 q.2.1 q.2.2.1) ∧ IAt w q.1 q.2.1 q.2.2.1 q.2.2.2 := fun i => by
      by_cases hi : i < cap0
      · obtain ⟨q1, q2, z, q3⟩ := hV i hi
        obtain ⟨x, hx⟩ : ∃ x, V i = [x] := List.length_eq_one_iff.1 q1
        rw [hx] at q2 q3
        obtain ⟨a, l, c, d, rfl, hI⟩ := open_ints q3
        exact ⟨(a, l, c, d), fun _ => ⟨by have := q2 0 _ rfl; simpa using this, hI⟩⟩
      · exact ⟨(none, 0, 0, []), fun h => absurd h hi⟩
    obtain ⟨e, he⟩ := Classical.axiomOfChoice hE
    exact ⟨⟨some ⟨b, off, none⟩, b, off, len0, cap0, fun i => (e i).1, fun i => (e i).2.1, fun i => (e i).2.2.1, fun i => (e i).2.2.2⟩, rfl, hl, hm, fun _ => rfl, fun _ => hb, fun i hi => (he i (Nat.lt_of_lt_of_le hi hl)).1, fun i hi => (he i (Nat.lt_of_lt_of_le hi hl)).2⟩
  · obtain rfl : len0 = 0 := by omega
    exact ⟨⟨a0, 0, 0, 0, cap0, fun _ => none, fun _ => 0, fun _ => 0, fun _ => []⟩, rfl, hl, hm, fun h => absurd h (Nat.lt_irrefl _), fun h => absurd h (Nat.lt_irrefl _), fun i hi => absurd hi (Nat.not_lt_zero _), fun i hi => absurd hi (Nat.not_lt_zero _)⟩
end
end Go.Proofs.Ytbbcongfaoopcaa
namespace Go.Proofs.Ytbbcongfaoopcaa
open Go.ChangeShapes Go.WideShapes Go.ChangeAt Go.RowKit Go.Maps
set_option linter.unusedVariables false
set_option linter.unusedSimpArgs false
open BigFrame Pk Fq Vr Fa

namespace Fa
theorem served_cons {N m : Nat} {ALL y : Int} {W : Nat → Int} {Q : Nat → List Int} {x : Sched} {t : Nat → Nat} {r : List Int} (hg : goodQ Q N) (h : servedN N ALL W Q m x t = y :: r) :
    ∃ m' k x', m = m' + 1 ∧ y = ((k : Nat) : Int) ∧ k < N ∧ t k < (Q k).length ∧ r = servedN N ALL W Q m' x' (upn t k (t k + 1)) := by
  cases m with
  | zero => simp [servedN] at h
  | succ m =>
    simp only [servedN] at h
    by_cases hok : (stepX N ALL W Q x t).ok = true
    · rw [if_pos hok] at h
      obtain ⟨k, hk1, hk2, hk3⟩ := stepX_yes hg hok
      injection h with h1 h2
      rw [hk1] at h1 h2
      rw [Int.toNat_natCast] at h2
      exact ⟨m, k, _, rfl, h1.symm, hk2, hk3, h2.symm⟩
    · rw [if_neg hok] at h
      cases h
theorem served_nil {N m : Nat} {ALL : Int} {W : Nat → Int} {Q : Nat → List Int} {x : Sched} {t : Nat → Nat} (hg : goodQ Q N) (h : servedN N ALL W Q m x t = []) (hm : leftQ Q t N = m) : m = 0 := by
  cases m with
  | zero => rfl
  | succ m =>
    simp only [servedN] at h
    by_cases hok : (stepX N ALL W Q x t).ok = true
    · rw [if_pos hok] at h
      cases h
    · have := stepX_no hg (by simpa using hok)
      omega
def atC (t : Nat → Nat) : List Value := (List.range 20).map fun i => .int .i64 ((t i : Nat) : Int)
theorem atC_len (t : Nat → Nat) : (atC t).length = 20 := by simp [atC]
theorem atC_at (t : Nat → Nat) (i : Nat) (h : i < 20) : (atC t)[i]? = some (.int .i64 ((t i : Nat) : Int)) := by simp [atC, h]
theorem atC_set (t : Nat → Nat) (k x : Nat) : (atC t).set k (.int .i64 ((x : Nat) : Int)) = atC (upn t k x) := by
  apply List.ext_getElem?
  intro i
  rw [List.getElem?_set]
  by_cases e : k = i
  · subst e
    by_cases h : k < 20
    · rw [if_pos rfl, if_pos (by rw [atC_len]; exact h), atC_at _ _ h]; simp [upn]
    · rw [if_pos rfl, if_neg (by rw [atC_len]; exact h)]
      rw [List.getElem?_eq_none (by rw [atC_len]; omega)]
  · rw [if_neg e]
    by_cases h : i < 20
    · rw [atC_at _ _ h, atC_at _ _ h]; simp only [upn]; rw [if_neg (fun q => e q.symm)]
    · rw [List.getElem?_eq_none (by rw [atC_len]; omega), List.getElem?_eq_none (by rw [atC_len]; omega)]
/-- What Run gave is a run, where there is something. -/
theorem runR_some {dw : List Int} {nq : Nat} {Q : Nat → List Int} (h : runR dw nq Q ≠ []) : newOk dw ∧ nq = dw.length ∧ goodQ Q nq ∧ leftQ Q t0 nq ≤ 1000 ∧ runR dw nq Q = servedN nq (sumW (gd dw) nq) (gd dw) Q (leftQ Q t0 nq) sched0 t0 := by
  unfold runR at h ⊢
  by_cases hok : runOk dw nq Q
  · rw [if_pos hok]
    exact ⟨hok.1, hok.2.1, hok.2.2.1, hok.2.2.2, rfl⟩
  · rw [if_neg hok] at h
    exact absurd rfl h
theorem runR_none {dw : List Int} {nq : Nat} {Q : Nat → List Int} (h : ¬ newOk dw ∨ nq ≠ dw.length) : runR dw nq Q = [] := by
  unfold runR
  rw [if_neg (fun q => h.elim (fun n => n q.1) (fun n => n q.2.1))]
theorem served_len {N m : Nat} {ALL : Int} {W : Nat → Int} {Q : Nat → List Int} : ∀ {x : Sched} {t : Nat → Nat}, (servedN N ALL W Q m x t).length ≤ m := by
  induction m with
  | zero => intro x t; simp [servedN]
  | succ m ih =>
    intro x t
    simp only [servedN]
    split
    · simp; exact ih
    · simp
theorem runR_len {dw : List Int} {nq : Nat} {Q : Nat → List Int} : (runR dw nq Q).length ≤ 1000 := by
  by_cases h : runR dw nq Q = []
  · rw [h]; simp
  · obtain ⟨_, _, _, h4, h5⟩ := runR_some h
    rw [h5]
    exact Nat.le_trans served_len h4
end Fa

set_option maxRecDepth 100000 in
set_option maxHeartbeats 8000000 in
theorem fall_great (w : World) (aw aq : Option Addr) (nw cw nq cq : Nat) (h : 20 < nw ∨ 20 < nq) :
    Calls Try.prog 4 #[.slice aw nw cw, .slice aq nq cq] w fun e w' => e = .returned (.bool true) ∧ Below w.heap.size w w' := by
  by_cases h1 : 20 < nw
  · have h1z : (20 : Int) < (nw : Int) := by omega
    clear h
    go_enter Try.func4, Try.ntmps4
    go_wp2_with fail
    refine (wakes26_c _).mono ?_
    rintro e w3 ⟨rfl, hb⟩
    replace hb := Lib.hid hb
    go_wp2_with fail
    exact bodyPost_ret (v := .bool true) (by simp [results, Try.results4, go_sem]) rfl ⟨rfl, hb.out⟩
  · have h1z : ¬ (20 : Int) < (nw : Int) := by omega
    have h2z : (20 : Int) < (nq : Int) := by omega
    clear h
    go_enter Try.func4, Try.ntmps4
    go_wp2_with fail
    refine (wakes26_c _).mono ?_
    rintro e w3 ⟨rfl, hb⟩
    replace hb := Lib.hid hb
    go_wp2_with fail
    exact bodyPost_ret (v := .bool true) (by simp [results, Try.results4, go_sem]) rfl ⟨rfl, hb.out⟩

set_option maxRecDepth 100000 in
set_option maxHeartbeats 20000000 in
theorem fall_c (w : World) (aw aq : Option Addr) (nw cw nq cq b2 off2 : Nat) (dw : List Int) (A : Nat → Option Addr) (L C : Nat → Nat) (Q : Nat → List Int) (Wt : IAt w aw nw cw dw) (T : QsAt w aq b2 off2 nq A L C Q) (hw : nw ≤ 20) (hq : nq ≤ 20) :
    Calls Try.prog 4 #[.slice aw nw cw, .slice aq nq cq] w fun e w' => e = .returned (.bool true) ∧ Below w.heap.size w w' := by
  have hwz : ¬ (20 : Int) < (nw : Int) := by omega
  have hqz : ¬ (20 : Int) < (nq : Int) := by omega
  have hlw := Lib.hid Wt.len
  replace Wt := Lib.hid Wt
  replace T := Lib.hid T
  go_enter Try.func4, Try.ntmps4
  go_wp2_with fail
  go_loopw [4, 5, 6] (fun _ s5 s6 wr => ∃ (i : Nat), s5 = .int .i64 ((leftQ Q t0 i : Nat) : Int) ∧ s6 = .int .i64 (i : Nat) ∧ i ≤ nq ∧ wr = w ∧ RowKit.Hid (leftQ Q t0 i ≤ 200 * i) ∧ RowKit.Hid (∀ j, j < i → L j ≤ 200)) (fun _ _ s6 _ => nq - (intOf s6).toNat)
  case atStart => exact ⟨0, rfl, rfl, Nat.zero_le _, rfl, Lib.hid (by simp [leftQ]), Lib.hid (fun j hj => by omega)⟩
  case round =>
    obtain ⟨i, rfl, rfl, hi, rfl, hle, hls⟩ := hrel
    have ii : (i : Int) ≤ (nq : Int) := by omega
    by_cases hlt : i < nq
    · have ii1 : (i : Int) < (nq : Int) := by omega
      obtain rfl := T.out.ha (by omega)
      have x0 := T.out.c0 i hlt
      have hIq := T.out.q i hlt
      have hlen := hIq.len
      have hcap := hIq.cap
      have hmax := hIq.max
      have hstep : leftQ Q t0 (i + 1) = leftQ Q t0 i + L i := by simp only [leftQ, t0]; omega
      have hle1 := hle.out
      obtain ⟨Li, eL⟩ : ∃ n, L i = n := ⟨_, rfl⟩
      obtain ⟨S, eS⟩ : ∃ n, leftQ Q t0 i = n := ⟨_, rfl⟩
      rw [eL] at x0 hlen hcap hstep
      rw [eS] at hstep hle1 ⊢
      replace hstep := Lib.hid hstep
      have eL2 := Lib.hid eL
      clear hIq eL eS hlen
      by_cases hbig : 200 < Li
      · have hbz : (200 : Int) < (Li : Int) := by omega
        go_wp2_with fail
        refine (wakes26_c _).mono ?_
        rintro e w3 ⟨rfl, hb⟩
        replace hb := Lib.hid hb
        go_wp2_with fail
        exact bodyPost_ret (v := .bool true) (by simp [results, Try.results4, go_sem]) rfl ⟨rfl, hb.out⟩
      · have hbz : (Li : Int) ≤ 200 := by omega
        have hSz : (S : Int) ≤ 4000 := by omega
        go_wp2_with fail
        go_roundw
        case rel =>
          refine ⟨i + 1, by rw [hstep.out]; push_cast; rfl, by go_num, hlt, by first | rfl | trivial, Lib.hid (by rw [hstep.out]; omega), Lib.hid (fun j hj => ?_)⟩
          by_cases e : j = i
          · subst e; rw [eL2.out]; omega
          · exact hls.out j (by omega)
        case measure => simp [intOf]; omega
    · obtain rfl : i = nq := by omega
      rcases fnew_c wr aw nw cw dw Wt.out with ⟨hok, hnew⟩ | ⟨hno, hnew⟩
      · have hok2 := Lib.hid hok
        replace hnew := Lib.hid hnew
        go_wp2_with fail
        refine hnew.out.mono ?_
        rintro e w1 ⟨f, lb, cl, tb, ct, rfl, hFD, hf1, hf2, hf3, hB1⟩
        have hr := Lib.hid (frun_c w1 aw aq nw cw i cq b2 off2 dw A L C Q (Wt.out.bel hB1) (T.out.bel hB1) hls.out)
        replace hB1 := Lib.hid hB1
        clear hnew hFD hok
        go_wp2_with fail
        refine hr.out.mono ?_
        rintro e w2 ⟨a2, n2, c2, rfl, hn2, hO2, hB2⟩
        have hB2' := Lib.hid (hB1.out.trans (hB2.mono hB1.out.size))
        have R2 := Lib.hid (hO2.rd hn2 (by have := runR_len (dw := dw) (nq := i) (Q := Q); omega))
        clear hr hO2 hB2
        by_cases hl0 : runR dw i Q = []
        · obtain rfl : n2 = 0 := by rw [hn2, hl0]; rfl
          clear hl0 hn2
          by_cases hnn : i = nw
          · have hnz : (i : Int) = (nw : Int) := by omega
            go_wp2_with fail
            refine (wakes26_c _).mono ?_
            rintro e w3 ⟨rfl, hb⟩
            have hF := Lib.hid (hB2'.out.trans (hb.mono hB2'.out.size))
            clear hb
            go_wp2_with fail
            exact bodyPost_ret (v := .bool true) (by simp [results, Try.results4, go_sem]) rfl ⟨rfl, hF.out⟩
          · have hnz : ¬ (i : Int) = (nw : Int) := by omega
            go_wp2_with fail
            refine (wakes26_c _).mono ?_
            rintro e w3 ⟨rfl, hb⟩
            have hF := Lib.hid (hB2'.out.trans (hb.mono hB2'.out.size))
            clear hb
            go_wp2_with fail
            exact bodyPost_ret (v := .bool true) (by simp [results, Try.results4, go_sem]) rfl ⟨rfl, hF.out⟩
        · obtain ⟨_, h2, hgood, htot, hrun⟩ := runR_some hl0
          have hnw : nw = i := by have := hlw.out; omega
          subst hnw
          have hl8 : nw ≤ 8 := by have := hok2.out.2.1; omega
          clear h2
          have hpos : 0 < n2 := by rw [hn2]; exact List.length_pos_iff.2 hl0
          have hle2 : n2 ≤ 1000 := by rw [hn2]; exact runR_len
          have hnz : ¬ (n2 : Int) = 0 := by omega
          have hn2z : (n2 : Int) ≤ 1000 := by omega
          generalize hl : runR dw nw Q = l at R2 hn2 hrun hl0
          replace hrun := Lib.hid hrun
          replace hn2 := Lib.hid hn2
          replace hgood := Lib.hid hgood
          clear hl0 hl
          have hab : RowKit.Hid (Blk (w2.alloc (.cells #[.int .i64 0, .int .i64 0, .int .i64 0, .int .i64 0, .int .i64 0, .int .i64 0, .int .i64 0, .int .i64 0, .int .i64 0, .int .i64 0, .int .i64 0, .int .i64 0, .int .i64 0, .int .i64 0, .int .i64 0, .int .i64 0, .int .i64 0, .int .i64 0, .int .i64 0, .int .i64 0] 32)) w2.heap.size (atC t0)) := Lib.hid (blkN_new w2 (atC t0) 32)
          have hB3 := Lib.hid (hB2'.out.alloc hB2'.out.size (.cells #[.int .i64 0, .int .i64 0, .int .i64 0, .int .i64 0, .int .i64 0, .int .i64 0, .int .i64 0, .int .i64 0, .int .i64 0, .int .i64 0, .int .i64 0, .int .i64 0, .int .i64 0, .int .i64 0, .int .i64 0, .int .i64 0, .int .i64 0, .int .i64 0, .int .i64 0, .int .i64 0] 32))
          have R3 := Lib.hid (R2.out.bel ((Below.refl w2.heap.size w2).alloc (Nat.le_refl _) (.cells #[.int .i64 0, .int .i64 0, .int .i64 0, .int .i64 0, .int .i64 0, .int .i64 0, .int .i64 0, .int .i64 0, .int .i64 0, .int .i64 0, .int .i64 0, .int .i64 0, .int .i64 0, .int .i64 0, .int .i64 0, .int .i64 0, .int .i64 0, .int .i64 0, .int .i64 0, .int .i64 0] 32)))
          have T3 := Lib.hid (T.out.bel hB3.out)
          have hab2 : w1.heap.size ≤ w1.heap.size := Nat.le_refl _
          have hwab := hB2'.out.size
          have hR3 : RowKit.Hid (∀ b off, a2 = some ⟨b, off, none⟩ → b < w2.heap.size) := Lib.hid (fun b off e => by
            obtain ⟨b', o', e', hb', _⟩ := R2.out.row hpos
            rw [e] at e'
            cases e'
            exact hb')
          go_upto_region 15 with fail
          obtain ⟨ab, hab0⟩ : ∃ ab, w2.heap.size = ab := ⟨_, rfl⟩
          rw [hab0] at hab hwab hR3 ⊢
          clear R2 hB2' hab0
          generalize (w2.alloc (.cells #[.int .i64 0, .int .i64 0, .int .i64 0, .int .i64 0, .int .i64 0, .int .i64 0, .int .i64 0, .int .i64 0, .int .i64 0, .int .i64 0, .int .i64 0, .int .i64 0, .int .i64 0, .int .i64 0, .int .i64 0, .int .i64 0, .int .i64 0, .int .i64 0, .int .i64 0, .int .i64 0] 32)) = W3 at hab hB3 R3 T3 ⊢
          go_wp2_with fail
          go_loopw [4, 11] (fun _ s11 wr => ∃ (i : Nat) (x : Sched) (t : Nat → Nat) (m : Nat), s11 = .int .i64 (i : Nat) ∧ i ≤ n2 ∧ RowKit.Hid (Blk wr ab (atC t)) ∧ RowKit.Hid (KF [ab] W3 wr) ∧ RowKit.Hid (l.drop i = servedN nw (sumW (gd dw) nw) (gd dw) Q m x t) ∧ RowKit.Hid (leftQ Q t nw = m) ∧ RowKit.Hid (i + m = leftQ Q t0 nw)) (fun _ s11 _ => n2 - (intOf s11).toNat)
          case atStart => exact ⟨0, sched0, t0, leftQ Q t0 nw, rfl, Nat.zero_le _, hab, Lib.hid (KF.refl _ _), Lib.hid hrun.out, Lib.hid rfl, Lib.hid (Nat.zero_add _)⟩
          case round =>
            obtain ⟨i, x, t, m, rfl, hi, hA, hK, hd, hm, him⟩ := hrel
            have ii : (i : Int) ≤ (n2 : Int) := by omega
            by_cases hlt : i < n2
            · have ii1 : (i : Int) < (n2 : Int) := by omega
              have hlen := R3.out.len
              obtain ⟨y, r, hyr⟩ : ∃ y r, l.drop i = y :: r := by
                cases e : l.drop i with
                | nil => have := congrArg List.length e; simp at this; omega
                | cons y r => exact ⟨y, r, rfl⟩
              obtain ⟨m', k, x', rfl, rfl, hkN, hkt, hr⟩ := served_cons hgood.out (hd.out.symm.trans hyr)
              have hli : l[i]? = some ((k : Nat) : Int) := by
                have := congrArg (fun q => q[0]?) hyr
                simpa using this
              have hdr : RowKit.Hid (l.drop (i + 1) = r) := Lib.hid (by rw [← List.drop_drop, hyr]; rfl)
              obtain ⟨rb, ro, rfl, hrb, hrc⟩ := R3.out.row hpos
              have hneb := hR3.out rb ro rfl
              have y0 := (World.cell?_of_block (hK.out.k rb hrb (by simp; omega))).trans (hrc i _ hli)
              obtain rfl := T3.out.ha (by omega)
              have hbq := T.out.hb (by omega)
              have hneq : b2 ≠ ab := by omega
              have y1 := (World.cell?_of_block (hK.out.k b2 (T3.out.hb (by omega)) (by simp; omega))).trans (T3.out.c0 k hkN)
              have hqk := T3.out.q k hkN
              have hlk := hqk.len
              have hck := hqk.cap
              have hmk := hqk.max
              have y2 := hA.out.c k _ (atC_at t k (by omega))
              have y3 := hA.out.f k
              have hk0 : ¬ (k : Int) < 0 := by omega
              have hk1n : ¬ (nw : Int) ≤ (k : Int) := by omega
              have hk1 : (k : Int) < (nw : Int) := by omega
              have hk2 : (k : Int) < 20 := by omega
              obtain ⟨Lk, eL⟩ : ∃ n, L k = n := ⟨_, rfl⟩
              obtain ⟨tk, et⟩ : ∃ n, t k = n := ⟨_, rfl⟩
              have etH := Lib.hid et
              rw [eL] at y1 hlk hck
              rw [et] at y2 hkt
              rw [hlk] at hkt
              have hk3 : ¬ (Lk : Int) ≤ (tk : Int) := by omega
              have hk4 : (Lk : Int) ≤ 9223372036854775807 := by omega
              have hktH := Lib.hid (show t k < (Q k).length by omega)
              replace hyr := Lib.hid hyr
              replace hli := Lib.hid hli
              replace hrc := Lib.hid hrc
              replace hr := Lib.hid hr
              clear eL et hqk hmk hlen hlk hck
              go_upto_region 18 with fail
              go_big_quiet (fail)
              have hbd := Lib.hid (bDrew (Below.refl wr.heap.size wr) nq)
              have hA4 := hA.out.bel hbd.out
              have z0 := hA4.f k
              have hst : ((tk : Nat) : Int) + 1 = ((tk + 1 : Nat) : Int) := by push_cast; rfl
              have hA5 : RowKit.Hid (Blk ((wr.drewN nq).setCell ⟨ab, k, none⟩ (.int .i64 ((tk : Int) + 1))) ab (atC (upn t k (t k + 1)))) := Lib.hid (by
                rw [etH.out, hst, ← atC_set]
                exact hA4.set (by rw [atC_len]; omega) _)
              have hK5 := Lib.hid ((hK.out.trans (KF.of (l := [ab]) hbd.out)).set (p := ⟨ab, k, none⟩) (.inl (by simp)) (.int .i64 ((tk : Int) + 1)))
              have hls2 := Lib.hid (leftQ_step (Q := Q) hktH.out nw hkN)
              clear hst hA4 hA hK
              go_wp2_with fail
              go_roundw
              case rel => exact ⟨i + 1, x', upn t k (t k + 1), m', by go_num, hlt, hA5, hK5, Lib.hid (by rw [hdr.out]; exact hr.out), Lib.hid (by have := hls2.out; have := hm.out; omega), Lib.hid (by have := him.out; omega)⟩
              case measure => simp [intOf]; omega
            · obtain rfl : i = n2 := by omega
              have hm0 : m = 0 := served_nil hgood.out (by rw [← hd.out]; exact List.drop_eq_nil_of_le (by have := R3.out.len; omega)) hm.out
              have htt : leftQ Q t0 nw = i := by have := him.out; omega
              rw [htt]
              have hB9 := Lib.hid (hB3.out.trans (hK.out.below (fun q hq => by simp at hq; omega) hB3.out.size))
              clear hm0 htt hd hm him
              go_wp2_with fail
              refine (wakes26_c _).mono ?_
              rintro e w3 ⟨rfl, hb⟩
              have hF := Lib.hid (hB9.out.trans (hb.mono hB9.out.size))
              clear hb
              go_wp2_with fail
              exact bodyPost_ret (v := .bool true) (by simp [results, Try.results4, go_sem]) rfl ⟨rfl, hF.out⟩
      · have hl0 : runR dw i Q = [] := runR_none (.inl hno)
        replace hnew := Lib.hid hnew
        go_wp2_with fail
        refine hnew.out.mono ?_
        rintro e w1 ⟨rfl, hB1⟩
        have hr := frun_c w1 aw aq nw cw i cq b2 off2 dw A L C Q (Wt.out.bel hB1) (T.out.bel hB1) hls.out
        rw [hl0] at hr
        replace hr := Lib.hid hr
        replace hB1 := Lib.hid hB1
        clear hnew hl0 hno
        go_wp2_with fail
        refine hr.out.mono ?_
        rintro e w2 ⟨a2, n2, c2, rfl, hn2, hO2, hB2⟩
        obtain rfl : n2 = 0 := hn2
        have hB2' := Lib.hid (hB1.out.trans (hB2.mono hB1.out.size))
        clear hr hO2 hB2
        go_wp2_with fail
        refine (wakes26_c _).mono ?_
        rintro e w3 ⟨rfl, hb⟩
        have hF := Lib.hid (hB2'.out.trans (hb.mono hB2'.out.size))
        clear hb
        go_wp2_with fail
        exact bodyPost_ret (v := .bool true) (by simp [results, Try.results4, go_sem]) rfl ⟨rfl, hF.out⟩
theorem fairAll_walk (w : World) (v0 : Value) (a0 : XT_Lint) (v1 : Value) (a1 : XT_LLint) (w0 : Is_Lint w v0 a0) (w1 : Is_LLint w v1 a1) :
    Calls Try.prog 4 #[v0, v1] w fun e w' => e = .returned (.bool true) ∧ Below w.heap.size w w' := by
  obtain ⟨rfl, W0⟩ := w0
  obtain ⟨rfl, _, _, T0⟩ := w1
  by_cases h : 20 < a0.n ∨ 20 < a1.n
  · exact fall_great w a0.a a1.a a0.n a0.c a1.n a1.c h
  · exact fall_c w a0.a a1.a a0.n a0.c a1.n a1.c a1.b a1.off a0.d a1.A a1.L a1.C a1.Q W0 T0 (by omega) (by omega)
end Go.Proofs.Ytbbcongfaoopcaa
