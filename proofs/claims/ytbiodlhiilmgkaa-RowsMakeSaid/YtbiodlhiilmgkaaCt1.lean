/- Entries with their bytes: what a slice in memory reads as, as lists; plain laws on worlds. -/
import Derived.Test.YtbiodlhiilmgkaaBase
import Derived.Test.YtbiodlhiilmgkaaRwRef2
namespace Go.Proofs.Ytbiodlhiilmgkaa
open Go.ChangeShapes Go.WideShapes Go.ChangeAt Go.RowKit
set_option linter.unusedVariables false
set_option linter.unusedSimpArgs false
open BigFrame Bs Rw

namespace Ct
/-- A slice of bytes that reads as d. -/
structure Byt (w : World) (a : Option Addr) (n cap : Nat) (d : List Nat) : Prop where
  len : n = d.length
  le : n ≤ cap
  mx : cap ≤ 9223372036854775807
  row : 0 < n → ∃ b o, a = some ⟨b, o, none⟩ ∧ b < w.heap.size ∧ ∀ i x, d[i]? = some x → w.cell? ⟨b, o + i, none⟩ = some (.int .u8 (x : Nat)) ∧ x < 256
theorem Byt.nil (w : World) (a : Option Addr) (cap : Nat) (h : cap ≤ 9223372036854775807) : Byt w a 0 cap [] := ⟨rfl, by omega, h, fun hh => absurd hh (by omega)⟩
theorem Byt.bel {w w' : World} {a : Option Addr} {n cap : Nat} {d : List Nat} (h : Byt w a n cap d) (k : Below w.heap.size w w') : Byt w' a n cap d :=
  ⟨h.len, h.le, h.mx, fun hn => by
    obtain ⟨b, o, ha, hb, hc⟩ := h.row hn
    exact ⟨b, o, ha, Nat.lt_of_lt_of_le hb k.size, fun i x hx => ⟨(k.cell (p := ⟨b, o + i, none⟩) hb).trans (hc i x hx).1, (hc i x hx).2⟩⟩⟩
theorem Byt.set {w : World} {a : Option Addr} {n cap : Nat} {d : List Nat} (h : Byt w a n cap d) {p : Addr} {v0 : Value} (hp : w.cell? p = some v0) (hv : ∀ x, v0 ≠ .int .u8 x) (v : Value) : Byt (w.setCell p v) a n cap d :=
  ⟨h.len, h.le, h.mx, fun hn => by
    obtain ⟨b, o, ha, hb, hc⟩ := h.row hn
    exact ⟨b, o, ha, by simpa using hb, fun i x hx => ⟨(World.cell?_setCell_other _ _ _ _ (fun e => by
      have := (hc i x hx).1
      rw [← e, hp] at this
      cases this
      exact hv _ rfl)).trans (hc i x hx).1, (hc i x hx).2⟩⟩⟩
theorem Byt.lt {w : World} {a : Option Addr} {n cap : Nat} {d : List Nat} (h : Byt w a n cap d) : ∀ x ∈ d, x < 256 := fun x hx => by
  obtain ⟨i, hi, rfl⟩ := List.getElem_of_mem hx
  obtain ⟨b, o, _, _, hc⟩ := h.row (by rw [h.len]; omega)
  exact (hc i _ (List.getElem?_eq_getElem hi)).2
def bvals (l : List Nat) : List Value := l.map fun x : Nat => Value.int .u8 (x : Int)
theorem bvals_len (l : List Nat) : (bvals l).length = l.length := by simp [bvals]
theorem bvals_one (l : List Nat) : ∀ u ∈ bvals l, u.oneCell' = true := by
  intro u hu
  obtain ⟨x, _, rfl⟩ := List.mem_map.1 hu
  rfl
theorem bvals_at {l : List Nat} {i : Nat} {u : Value} (h : (bvals l)[i]? = some u) : ∃ x : Nat, l[i]? = some x ∧ u = .int .u8 (x : Int) := by
  unfold bvals at h
  rw [List.getElem?_map] at h
  cases hx : l[i]? with
  | none => rw [hx] at h; cases h
  | some x => rw [hx] at h; exact ⟨x, rfl, by simpa using h.symm⟩
theorem Byt.of_own {w : World} {base g c n : Nat} {d : List Nat} (h : w.ownsRow base 5 1 (.slice (some ⟨g, 0, none⟩) n c) n (bvals d)) (hd : ∀ x ∈ d, x < 256) (hn : n = d.length) : Byt w (some ⟨g, 0, none⟩) n c d := by
  rcases h.2 with ⟨hh, _⟩ | ⟨g', cap', cur, hh, hbg, hhp, hnc, hcm, hsz, htk⟩
  · cases hh
  · cases hh
    refine ⟨hn, by simpa using hnc, hcm, fun hp => ⟨g, 0, rfl, h.lt g rfl |>.2, fun i x hx => ⟨?_, hd x (List.mem_of_getElem? hx)⟩⟩⟩
    have hi : i < d.length := (List.getElem?_eq_some_iff.1 hx).1
    rw [Nat.zero_add, h.cellAt i (by omega), bvals, List.getElem?_map, hx]
    rfl

/-- An entry, by what it says. -/
structure En where
  term : Int
  kind : Int
  stamp : Int
  set : Int
  d : List Nat
deriving DecidableEq
def en0 : En := ⟨0, 0, 0, 0, []⟩
/-- What is laid in memory says it. -/
structure Has (w : World) (x : Ent) (y : En) : Prop where
  t : x.term = y.term
  k : x.kind = y.kind
  s : x.stamp = y.stamp
  u : x.set = y.set
  d : Byt w x.da x.dl x.dc y.d
theorem Has.bel {w w' : World} {x : Ent} {y : En} (h : Has w x y) (k : Below w.heap.size w w') : Has w' x y := ⟨h.t, h.k, h.s, h.u, h.d.bel k⟩
theorem Has.set' {w : World} {x : Ent} {y : En} (h : Has w x y) {p : Addr} {v0 : Value} (hp : w.cell? p = some v0) (hv : ∀ x, v0 ≠ .int .u8 x) (v : Value) : Has (w.setCell p v) x y := ⟨h.t, h.k, h.s, h.u, h.d.set hp hv v⟩
def HasL (w : World) (es : List Ent) (l : List En) : Prop := es.length = l.length ∧ ∀ (i : Nat) (x : Ent) (y : En), es[i]? = some x → l[i]? = some y → Has w x y
theorem HasL.bel {w w' : World} {es : List Ent} {l : List En} (h : HasL w es l) (k : Below w.heap.size w w') : HasL w' es l := ⟨h.1, fun i x y hx hy => (h.2 i x y hx hy).bel k⟩
theorem HasL.set' {w : World} {es : List Ent} {l : List En} (h : HasL w es l) {p : Addr} {v0 : Value} (hp : w.cell? p = some v0) (hv : ∀ x, v0 ≠ .int .u8 x) (v : Value) : HasL (w.setCell p v) es l := ⟨h.1, fun i x y hx hy => (h.2 i x y hx hy).set' hp hv v⟩
theorem HasL.nil (w : World) : HasL w [] [] := ⟨rfl, fun i x y hx => by simp at hx⟩
theorem HasL.app {w : World} {es es' : List Ent} {l l' : List En} (h : HasL w es l) (h' : HasL w es' l') : HasL w (es ++ es') (l ++ l') :=
  ⟨by simp [h.1, h'.1], fun i x y hx hy => by
    by_cases hi : i < es.length
    · rw [List.getElem?_append_left hi] at hx
      rw [List.getElem?_append_left (by rw [← h.1]; exact hi)] at hy
      exact h.2 i x y hx hy
    · rw [List.getElem?_append_right (by omega)] at hx
      rw [List.getElem?_append_right (by rw [← h.1]; omega), ← h.1] at hy
      exact h'.2 _ x y hx hy⟩
theorem HasL.take {w : World} {es : List Ent} {l : List En} (h : HasL w es l) (k : Nat) : HasL w (es.take k) (l.take k) :=
  ⟨by simp [h.1], fun i x y hx hy => by
    rw [List.getElem?_take] at hx hy
    split at hx
    · rename_i hi
      rw [if_pos hi] at hy
      exact h.2 i x y hx hy
    · cases hx⟩
theorem HasL.drop {w : World} {es : List Ent} {l : List En} (h : HasL w es l) (k : Nat) : HasL w (es.drop k) (l.drop k) :=
  ⟨by simp [h.1], fun i x y hx hy => by
    rw [List.getElem?_drop] at hx hy
    exact h.2 _ x y hx hy⟩
theorem HasL.one {w : World} {x : Ent} {y : En} (h : Has w x y) : HasL w [x] [y] := ⟨rfl, fun i a b ha hb => by
  cases i with
  | zero => simp at ha hb; subst ha; subst hb; exact h
  | succ i => simp at ha⟩
theorem HasL.upd {w : World} {es : List Ent} {l : List En} (h : HasL w es l) (k : Nat) (x : Ent) (hx : ∀ y, l[k]? = some y → Has w x y) : HasL w (es.set k x) l :=
  ⟨by simp [h.1], fun i a b ha hb => by
    by_cases e : i = k
    · subst e
      have hi : i < es.length := by rw [h.1]; exact (List.getElem?_eq_some_iff.1 hb).1
      rw [List.getElem?_set_self hi] at ha
      cases ha
      exact hx b hb
    · rw [List.getElem?_set_ne (by omega)] at ha
      exact h.2 i a b ha hb⟩

/-- The cells of entries. -/
def cellsE (x : Ent) : List Value := [.int .i64 x.term, .int .i8 x.kind, .int .i64 x.stamp, .int .u8 x.set, .slice x.da x.dl x.dc]
def rowE (es : List Ent) : List Value := es.flatMap cellsE
theorem rowE_cons (x : Ent) (es : List Ent) : rowE (x :: es) = cellsE x ++ rowE es := by simp [rowE]
theorem rowE_app (es es' : List Ent) : rowE (es ++ es') = rowE es ++ rowE es' := by simp [rowE]
theorem rowE_snoc (es : List Ent) (x : Ent) : rowE (es ++ [x]) = rowE es ++ cellsE x := by simp [rowE]
theorem rowE_len (es : List Ent) : (rowE es).length = es.length * 5 := by
  induction es with
  | nil => rfl
  | cons a l ih => rw [rowE_cons, List.length_append, ih, List.length_cons]; simp [cellsE]; omega
theorem rowE_at (es : List Ent) (i j : Nat) (x : Ent) (hi : es[i]? = some x) (hj : j < 5) : (rowE es)[i * 5 + j]? = (cellsE x)[j]? := by
  induction es generalizing i with
  | nil => simp at hi
  | cons a l ih =>
    rw [rowE_cons]
    cases i with
    | zero =>
      simp at hi; subst hi
      rw [List.getElem?_append_left (by simp [cellsE]; omega)]
      simp
    | succ i =>
      rw [List.getElem?_append_right (by simp [cellsE]; omega), show (i + 1) * 5 + j - (cellsE a).length = i * 5 + j by simp [cellsE]; omega]
      exact ih i (by simpa using hi)
theorem rowE_one (es : List Ent) : ∀ u ∈ rowE es, u.oneCell' = true := by
  intro u hu
  obtain ⟨x, _, hx⟩ := List.mem_flatMap.1 hu
  simp [cellsE] at hx
  rcases hx with rfl | rfl | rfl | rfl | rfl <;> rfl
theorem rowE_take (es : List Ent) (k : Nat) : (rowE es).take (k * 5) = rowE (es.take k) := by
  induction es generalizing k with
  | nil => simp [rowE]
  | cons a l ih =>
    cases k with
    | zero => simp [rowE]
    | succ k =>
      rw [rowE_cons, List.take_succ_cons, rowE_cons, ← ih k, List.take_append, show (k + 1) * 5 - (cellsE a).length = k * 5 by simp [cellsE]; omega, List.take_of_length_le (by simp [cellsE]; omega)]
/-- A slice of entries as it lies. -/
structure EsAt (w : World) (a : Option Addr) (n cap : Nat) (es : List Ent) : Prop where
  len : n = es.length
  le : n ≤ cap
  mx : cap ≤ 9223372036854775807
  row : 0 < n → ∃ b o, a = some ⟨b, o, none⟩ ∧ b < w.heap.size ∧ ∀ i x, es[i]? = some x → EntAt w b (o + i * 5) x
theorem EsAt.nil (w : World) (a : Option Addr) (cap : Nat) (h : cap ≤ 9223372036854775807) : EsAt w a 0 cap [] := ⟨rfl, by omega, h, fun hh => absurd hh (by omega)⟩
theorem EsAt.bel {w w' : World} {a : Option Addr} {n cap : Nat} {es : List Ent} (h : EsAt w a n cap es) (k : Below w.heap.size w w') : EsAt w' a n cap es :=
  ⟨h.len, h.le, h.mx, fun hn => by
    obtain ⟨b, o, ha, hb, hc⟩ := h.row hn
    exact ⟨b, o, ha, Nat.lt_of_lt_of_le hb k.size, fun i x hx => (hc i x hx).below k hb⟩⟩
/-- The cells, one by one. -/
theorem EsAt.cells {w : World} {a : Option Addr} {n cap : Nat} {es : List Ent} (h : EsAt w a n cap es) (hn : 0 < n) : ∃ b o, a = some ⟨b, o, none⟩ ∧ b < w.heap.size ∧ ∀ j u, (rowE es)[j]? = some u → w.cell? ⟨b, o + j, none⟩ = some u := by
  obtain ⟨b, o, ha, hb, hc⟩ := h.row hn
  refine ⟨b, o, ha, hb, fun j u hu => ?_⟩
  have hj : j < es.length * 5 := by rw [← rowE_len]; exact (List.getElem?_eq_some_iff.1 hu).1
  have hi : j / 5 < es.length := by omega
  have hx := List.getElem?_eq_getElem hi
  have hm : j % 5 < 5 := Nat.mod_lt _ (by omega)
  have hjj : j = j / 5 * 5 + j % 5 := by omega
  have hat := hc _ _ hx
  rw [hjj, rowE_at es _ _ _ hx hm] at hu
  rw [hjj, ← Nat.add_assoc]
  generalize j % 5 = m at hu hm
  obtain ⟨c0, c1, c2, c3, c4⟩ := hat
  have : m = 0 ∨ m = 1 ∨ m = 2 ∨ m = 3 ∨ m = 4 := by omega
  rcases this with rfl | rfl | rfl | rfl | rfl <;> simp [cellsE] at hu <;> subst hu <;> assumption
theorem EsAt.of_cells {w : World} {a : Option Addr} {n cap : Nat} {es : List Ent} (hl : n = es.length) (hle : n ≤ cap) (hm : cap ≤ 9223372036854775807) (h : 0 < n → ∃ b o, a = some ⟨b, o, none⟩ ∧ b < w.heap.size ∧ ∀ j u, (rowE es)[j]? = some u → w.cell? ⟨b, o + j, none⟩ = some u) : EsAt w a n cap es :=
  ⟨hl, hle, hm, fun hn => by
    obtain ⟨b, o, ha, hb, hc⟩ := h hn
    refine ⟨b, o, ha, hb, fun i x hx => ?_⟩
    have e := fun j hj => rowE_at es i j x hx hj
    refine ⟨?_, ?_, ?_, ?_, ?_⟩
    · exact hc (i * 5) _ (by rw [← Nat.add_zero (i * 5), e 0 (by omega)]; rfl)
    · rw [Nat.add_assoc]; exact hc (i * 5 + 1) _ (by rw [e 1 (by omega)]; rfl)
    · rw [Nat.add_assoc]; exact hc (i * 5 + 2) _ (by rw [e 2 (by omega)]; rfl)
    · rw [Nat.add_assoc]; exact hc (i * 5 + 3) _ (by rw [e 3 (by omega)]; rfl)
    · rw [Nat.add_assoc]; exact hc (i * 5 + 4) _ (by rw [e 4 (by omega)]; rfl)⟩
theorem EsAt.of_own {w : World} {base n : Nat} {v : Value} {es : List Ent} (h : w.ownsRow base 39 5 v n (rowE es)) : ∃ a c, v = .slice a n c ∧ EsAt w a n c es := by
  have hn : n = es.length := by have := h.1; rw [rowE_len] at this; omega
  rcases h.2 with ⟨rfl, rfl⟩ | ⟨g, cap, cur, rfl, hbg, hhp, hnc, hcm, hsz, htk⟩
  · exact ⟨none, 0, rfl, hn, Nat.le_refl _, by omega, fun hh => absurd hh (by omega)⟩
  · exact ⟨_, cap, rfl, EsAt.of_cells hn (by simpa using hnc) hcm (fun hp => ⟨g, 0, rfl, h.lt g rfl |>.2, fun j u hu => by
      have hj : j < es.length * 5 := by rw [← rowE_len]; exact (List.getElem?_eq_some_iff.1 hu).1
      rw [Nat.zero_add, h.cellAt j (by omega), hu]⟩)⟩
/-- A slice of entries by what they say. -/
def LAt (w : World) (a : Option Addr) (n cap : Nat) (l : List En) : Prop := ∃ es, EsAt w a n cap es ∧ HasL w es l
theorem LAt.bel {w w' : World} {a : Option Addr} {n cap : Nat} {l : List En} (h : LAt w a n cap l) (k : Below w.heap.size w w') : LAt w' a n cap l := by
  obtain ⟨es, h1, h2⟩ := h
  exact ⟨es, h1.bel k, h2.bel k⟩
theorem LAt.nil (w : World) (a : Option Addr) (cap : Nat) (h : cap ≤ 9223372036854775807) : LAt w a 0 cap [] := ⟨[], EsAt.nil w a cap h, HasL.nil w⟩
theorem LAt.len {w : World} {a : Option Addr} {n cap : Nat} {l : List En} (h : LAt w a n cap l) : n = l.length := by
  obtain ⟨es, h1, h2⟩ := h
  rw [h1.len, h2.1]
theorem LAt.le {w : World} {a : Option Addr} {n cap : Nat} {l : List En} (h : LAt w a n cap l) : n ≤ cap := by
  obtain ⟨es, h1, h2⟩ := h
  exact h1.le
theorem LAt.mx {w : World} {a : Option Addr} {n cap : Nat} {l : List En} (h : LAt w a n cap l) : cap ≤ 9223372036854775807 := by
  obtain ⟨es, h1, h2⟩ := h
  exact h1.mx
/-- An entry of it. -/
theorem LAt.ent {w : World} {a : Option Addr} {n cap k : Nat} {l : List En} {y : En} (h : LAt w a n cap l) (hy : l[k]? = some y) :
    ∃ b o x, a = some ⟨b, o, none⟩ ∧ b < w.heap.size ∧ EntAt w b (o + k * 5) x ∧ Has w x y := by
  obtain ⟨es, h1, h2⟩ := h
  have hk : k < es.length := by rw [h2.1]; exact (List.getElem?_eq_some_iff.1 hy).1
  obtain ⟨b, o, ha, hb, hc⟩ := h1.row (by rw [h1.len]; omega)
  exact ⟨b, o, es[k], ha, hb, hc k _ (List.getElem?_eq_getElem hk), h2.2 k _ y (List.getElem?_eq_getElem hk) hy⟩
/-- A piece of it: 'l[i:]' (the address as the model reckons it). -/
theorem LAt.from_ {w : World} {b o n cap i : Nat} {l : List En} (h : LAt w (some ⟨b, o, none⟩) n cap l) (hi : i ≤ n) : LAt w (some ⟨b, o + i * 5, none⟩) (n - i) (cap - i) (l.drop i) := by
  obtain ⟨es, h1, h2⟩ := h
  have := h1.le
  have := h1.mx
  refine ⟨es.drop i, ⟨by rw [List.length_drop, h1.len], by omega, by omega, fun hn => ?_⟩, h2.drop i⟩
  obtain ⟨b', o', ha, hb, hc⟩ := h1.row (by omega)
  cases ha
  refine ⟨b, o + i * 5, rfl, hb, fun j x hx => ?_⟩
  rw [List.getElem?_drop] at hx
  have := hc _ _ hx
  rwa [show o + (i + j) * 5 = o + i * 5 + j * 5 by omega] at this
theorem LAt.upto {w : World} {a : Option Addr} {n cap cap' k : Nat} {l : List En} (h : LAt w a n cap l) (hk : k ≤ n) (h1' : k ≤ cap') (h2' : cap' ≤ 9223372036854775807) : LAt w a k cap' (l.take k) := by
  obtain ⟨es, h1, h2⟩ := h
  refine ⟨es.take k, ⟨by rw [List.length_take, ← h1.len]; omega, h1', h2', fun hn => ?_⟩, h2.take k⟩
  obtain ⟨b', o', ha, hb, hc⟩ := h1.row (by omega)
  refine ⟨b', o', ha, hb, fun j x hx => ?_⟩
  rw [List.getElem?_take] at hx
  split at hx
  · exact hc _ _ hx
  · cases hx
theorem LAt.anyaddr {w : World} {a a' : Option Addr} {cap cap' : Nat} {l : List En} (h : LAt w a 0 cap l) (hc : cap' ≤ 9223372036854775807) : LAt w a' 0 cap' l := by
  have := h.len
  have e : l = [] := List.eq_nil_of_length_eq_zero this.symm
  subst e
  exact LAt.nil w a' cap' hc
theorem heap_cell {w : World} {g o : Nat} {cs : Array Value} {t : TypeId} {q : Nat × Nat} {v : Value} (h : w.heap[g]? = some (.cells cs t q)) (hv : cs[o]? = some v) : w.cell? ⟨g, o, none⟩ = some v := by
  unfold World.cell?
  simp only [h]
  simpa using hv
/-- The bytes of an entry are told anew. -/
theorem LAt.redata {w : World} {g n cap k : Nat} {l : List En} {y : En} {da : Option Addr} {dl dc : Nat} (h : LAt w (some ⟨g, 0, none⟩) n cap l) (hy : l[k]? = some y) (hd : Byt w da dl dc y.d) : LAt (w.setCell ⟨g, k * 5 + 4, none⟩ (.slice da dl dc)) (some ⟨g, 0, none⟩) n cap l := by
  obtain ⟨es, h1, h2⟩ := h
  have hk : k < es.length := by rw [h2.1]; exact (List.getElem?_eq_some_iff.1 hy).1
  obtain ⟨b', o', ha, hb, hc⟩ := h1.row (by rw [h1.len]; omega)
  cases ha
  have hxk := List.getElem?_eq_getElem hk
  have hold := (hc k _ hxk).2.2.2.2
  rw [Nat.zero_add] at hold
  have hne : ∀ x, Value.slice es[k].da es[k].dl es[k].dc ≠ .int .u8 x := fun x hh => by cases hh
  refine ⟨es.set k ⟨es[k].term, es[k].kind, es[k].stamp, es[k].set, da, dl, dc⟩, ⟨by rw [List.length_set]; exact h1.len, h1.le, h1.mx, fun _ => ⟨g, 0, rfl, by simpa using hb, fun i x hx => ?_⟩⟩, ?_⟩
  · have o : ∀ (p q : Nat) , p ≠ q → (w.setCell ⟨g, q, none⟩ (.slice da dl dc)).cell? ⟨g, p, none⟩ = w.cell? ⟨g, p, none⟩ := fun p q hpq => World.cell?_setCell_other _ _ _ _ (by simp <;> omega)
    by_cases e : i = k
    · subst e
      rw [List.getElem?_set_self hk] at hx
      cases hx
      obtain ⟨c0, c1, c2, c3, c4⟩ := hc i _ hxk
      rw [Nat.zero_add] at c0 c1 c2 c3 c4 ⊢
      refine ⟨(o _ _ (by omega)).trans c0, (o _ _ (by omega)).trans c1, (o _ _ (by omega)).trans c2, (o _ _ (by omega)).trans c3, World.cell?_setCell_same _ _ _ c4⟩
    · rw [List.getElem?_set_ne (by omega)] at hx
      obtain ⟨c0, c1, c2, c3, c4⟩ := hc i _ hx
      rw [Nat.zero_add] at c0 c1 c2 c3 c4 ⊢
      exact ⟨(o _ _ (by omega)).trans c0, (o _ _ (by omega)).trans c1, (o _ _ (by omega)).trans c2, (o _ _ (by omega)).trans c3, (o _ _ (by omega)).trans c4⟩
  · have h3 := h2.set' hold hne (.slice da dl dc)
    have hold2 := h2.2 k _ y hxk hy
    exact h3.upd k _ (fun y' hy' => by
      rw [hy] at hy'; cases hy'
      exact ⟨hold2.t, hold2.k, hold2.s, hold2.u, hd.set hold hne _⟩)
end Ct
end Go.Proofs.Ytbiodlhiilmgkaa
