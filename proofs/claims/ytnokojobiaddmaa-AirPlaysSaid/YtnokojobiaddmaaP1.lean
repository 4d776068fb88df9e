/- Messages with entries and bytes: what memory says of them; frames by the blocks' types. -/
import Derived.Test.YtnokojobiaddmaaA1
import Derived.Test.YtnokojobiaddmaaBy
namespace Go.Proofs.Ytnokojobiaddmaa
open Go.ChangeShapes Go.WideShapes Go.ChangeAt Go.RowKit
set_option linter.unusedVariables false
set_option linter.unusedSimpArgs false
open BigFrame Bs By

namespace Am
/-- The blocks of one type are as they were. -/
def Ty (t : TypeId) (w w' : World) : Prop := ∀ (b : Nat) (cs : Array Value), w.heap[b]? = some (.cells cs t (0, 0)) → w'.heap[b]? = some (.cells cs t (0, 0))
theorem Ty.refl (t : TypeId) (w : World) : Ty t w w := fun _ _ h => h
theorem Ty.trans {t : TypeId} {u v w : World} (h : Ty t u v) (k : Ty t v w) : Ty t u w := fun b cs q => k b cs (h b cs q)
theorem Ty.of {t : TypeId} {w w' : World} (h : Below w.heap.size w w') : Ty t w w' := fun b cs q => (h.block b (Array.getElem?_eq_some_iff.1 q).1).trans q
theorem Ty.drew {t : TypeId} {u w : World} (h : Ty t u w) : Ty t u w.drew := h
theorem Ty.set {t t' : TypeId} {w : World} {b o : Nat} {cs : Array Value} {q : Nat × Nat} (h : w.heap[b]? = some (.cells cs t' q)) (hn : t' ≠ t) (v : Value) : Ty t w (w.setCell ⟨b, o, none⟩ v) := fun k ks hk => by
  refine (Below.heap_setCell w ⟨b, o, none⟩ v k (fun e => ?_)).trans hk
  subst e
  rw [h] at hk
  cases hk
  exact hn rfl
theorem Ty.grown {t e : TypeId} {w w' : World} {base size n : Nat} {v : Value} {xs : List Value} (hown : w.ownsRow base e size v n xs) (hg : w.grownBy w' v.ownBlock) (hn : e ≠ t) : Ty t w w' := fun b cs hb => by
  refine (hg.block b (Array.getElem?_eq_some_iff.1 hb).1 (fun q => ?_)).trans hb
  rcases hown.2 with ⟨rfl, _⟩ | ⟨g, cap, cur, rfl, h1, h2, _⟩
  · cases q
  · simp [Value.ownBlock] at q
    subst q
    rw [h2] at hb
    cases hb
    exact hn rfl
theorem u8_ne_entry : 69 ≠ 5 := by decide
theorem msg_ne_u8 : 34 ≠ 5 := by decide
theorem msg_ne_entry : 34 ≠ 69 := by decide
/-- Bytes and entries are as they were. -/
structure Tf (w w' : World) : Prop where
  u : Ty 5 w w'
  e : Ty 69 w w'
theorem Tf.refl (w : World) : Tf w w := ⟨Ty.refl _ _, Ty.refl _ _⟩
theorem Tf.trans {u v w : World} (h : Tf u v) (k : Tf v w) : Tf u w := ⟨h.u.trans k.u, h.e.trans k.e⟩
theorem Tf.of {w w' : World} (h : Below w.heap.size w w') : Tf w w' := ⟨Ty.of h, Ty.of h⟩

/-- A typed slice of bytes that reads as d. -/
structure TB (w : World) (a : Option Addr) (n cap : Nat) (d : List Nat) : Prop where
  len : n = d.length
  le : n ≤ cap
  mx : cap ≤ 9223372036854775807
  row : 0 < n → ∃ b o cs, a = some ⟨b, o, none⟩ ∧ w.heap[b]? = some (.cells cs 5 (0, 0)) ∧ ∀ (i x : Nat), d[i]? = some x → cs[o + i]? = some (.int .u8 (x : Nat)) ∧ x < 256
theorem cell_of {w : World} {g o : Nat} {cs : Array Value} {t : TypeId} {q : Nat × Nat} {v : Value} (h : w.heap[g]? = some (.cells cs t q)) (hv : cs[o]? = some v) : w.cell? ⟨g, o, none⟩ = some v := by
  unfold World.cell?
  simp only [h]
  simpa using hv
theorem frozen_of {w : World} {g : Nat} {cs : Array Value} {t : TypeId} (h : w.heap[g]? = some (.cells cs t (0, 0))) (o : Nat) : w.frozen? ⟨g, o, none⟩ = false := by
  unfold World.frozen?
  simp [h]
theorem TB.nil (w : World) (a : Option Addr) (cap : Nat) (h : cap ≤ 9223372036854775807) : TB w a 0 cap [] := ⟨rfl, by omega, h, fun hh => absurd hh (by omega)⟩
theorem TB.byt {w : World} {a : Option Addr} {n cap : Nat} {d : List Nat} (h : TB w a n cap d) : Byt w a n cap d :=
  ⟨h.len, h.le, h.mx, fun hn => by
    obtain ⟨b, o, cs, ha, hb, hc⟩ := h.row hn
    exact ⟨b, o, ha, (Array.getElem?_eq_some_iff.1 hb).1, fun i x hx => ⟨cell_of hb (hc i x hx).1, (hc i x hx).2⟩⟩⟩
theorem TB.ty {w w' : World} {a : Option Addr} {n cap : Nat} {d : List Nat} (h : TB w a n cap d) (k : Ty 5 w w') : TB w' a n cap d :=
  ⟨h.len, h.le, h.mx, fun hn => by
    obtain ⟨b, o, cs, ha, hb, hc⟩ := h.row hn
    exact ⟨b, o, cs, ha, k b cs hb, hc⟩⟩
theorem TB.of_own {w : World} {base n n' : Nat} {v : Value} {d : List Nat} (h : w.ownsRow base 5 1 v n' ([] ++ bvals d)) (hd : ∀ x ∈ d, x < 256) (hn : n = d.length) (hn' : n' = n) : ∃ a c, v = .slice a n c ∧ TB w a n c d := by
  subst hn'
  rw [List.nil_append] at h
  rcases h.2 with ⟨rfl, rfl⟩ | ⟨g, cap', cur, rfl, h1, h2, h3, h4, h5, h6⟩
  · have hd : d = [] := List.eq_nil_of_length_eq_zero hn.symm
    subst hd
    exact ⟨_, _, rfl, TB.nil _ _ _ (by omega)⟩
  · refine ⟨_, _, rfl, hn, by simpa using h3, by simpa [maxLen] using h4, fun hp => ⟨g, 0, cur, rfl, h2, fun i x hx => ⟨?_, hd x (List.mem_of_getElem? hx)⟩⟩⟩
    have hi : i < d.length := (List.getElem?_eq_some_iff.1 hx).1
    have := h.cellAt i (by omega)
    unfold World.cell? at this
    simp only [h2] at this
    rw [bvals, List.getElem?_map, hx] at this
    rw [Nat.zero_add]
    simpa using this

/-- A block, known whole, of a type. -/
structure HT (u : World) (b : Nat) (cs : Array Value) (t : TypeId) : Prop where
  h : u.heap[b]? = some (.cells cs t (0, 0))
theorem HT.c {u : World} {b : Nat} {cs : Array Value} {t : TypeId} (h : HT u b cs t) (i : Nat) (v : Value) (hv : cs[i]? = some v) : u.cell? ⟨b, i, none⟩ = some v := cell_of h.h hv
theorem HT.f {u : World} {b : Nat} {cs : Array Value} {t : TypeId} (h : HT u b cs t) (i : Nat) : u.frozen? ⟨b, i, none⟩ = false := frozen_of h.h i
theorem HT.lt {u : World} {b : Nat} {cs : Array Value} {t : TypeId} (h : HT u b cs t) : b < u.heap.size := (Array.getElem?_eq_some_iff.1 h.h).1
theorem HT.bel {u u' : World} {b : Nat} {cs : Array Value} {t : TypeId} (h : HT u b cs t) (k : Below u.heap.size u u') : HT u' b cs t := ⟨(k.block b h.lt).trans h.h⟩
theorem HT.other {u : World} {b q o : Nat} {cs : Array Value} {t : TypeId} (h : HT u b cs t) (hne : b ≠ q) (v : Value) : HT (u.setCell ⟨q, o, none⟩ v) b cs t := ⟨(Below.heap_setCell u ⟨q, o, none⟩ v b hne).trans h.h⟩
theorem HT.new (u : World) (cs : Array Value) (t : TypeId) : HT (u.alloc (.cells cs t)) u.heap.size cs t := ⟨heap_alloc_new u _⟩
theorem HT.set {u : World} {b : Nat} {cs : Array Value} {t : TypeId} (h : HT u b cs t) (o : Nat) (v : Value) : HT (u.setCell ⟨b, o, none⟩ v) b (cs.setIfInBounds o v) t := ⟨by
  have := h.h
  unfold World.setCell
  simp [Array.getElem?_modify, this]⟩
theorem HT.ty {u : World} {b o : Nat} {cs : Array Value} {t t' : TypeId} (h : HT u b cs t') (hn : t' ≠ t) (v : Value) : Ty t u (u.setCell ⟨b, o, none⟩ v) := Ty.set h.h hn v
theorem HT.tf {u : World} {b o : Nat} {cs : Array Value} {t' : TypeId} (h : HT u b cs t') (h1 : t' ≠ 5) (h2 : t' ≠ 69) (v : Value) : Tf u (u.setCell ⟨b, o, none⟩ v) := ⟨Ty.set h.h h1 v, Ty.set h.h h2 v⟩

/-- An entry as it lies, and what it says. -/
structure Ent where
  term : Int
  kind : Int
  stamp : Int
  set : Int
  da : Option Addr
  dl : Nat
  dc : Nat
structure En where
  term : Int
  kind : Int
  stamp : Int
  set : Int
  d : List Nat
structure SameE (x : Ent) (y : En) : Prop where
  t : x.term = y.term
  k : x.kind = y.kind
  s : x.stamp = y.stamp
  u : x.set = y.set
def cellsE (x : Ent) : List Value := [.int .i64 x.term, .int .i8 x.kind, .int .i64 x.stamp, .int .u8 x.set, .slice x.da x.dl x.dc]
def rowE (es : List Ent) : List Value := es.flatMap cellsE
theorem rowE_cons (x : Ent) (es : List Ent) : rowE (x :: es) = cellsE x ++ rowE es := by simp [rowE]
theorem rowE_snoc (es : List Ent) (x : Ent) : rowE (es ++ [x]) = rowE es ++ cellsE x := by simp [rowE]
theorem rowE_len (es : List Ent) : (rowE es).length = es.length * 5 := by
  induction es with
  | nil => rfl
  | cons a l ih => rw [rowE_cons, List.length_append, ih, List.length_cons]; simp [cellsE]; omega
theorem rowE_at (es : List Ent) (i j : Nat) (x : Ent) (hi : es[i]? = some x) (hj : j < 5) : (rowE es)[i * 5 + j]? = (cellsE x)[j]? := by
  induction es generalizing i with
  | nil => simp at hi
  | cons a l ih =>
    rw [rowE_cons]
    cases i with
    | zero =>
      simp at hi; subst hi
      rw [List.getElem?_append_left (by simp [cellsE]; omega)]
      simp
    | succ i =>
      rw [List.getElem?_append_right (by simp [cellsE]; omega), show (i + 1) * 5 + j - (cellsE a).length = i * 5 + j by simp [cellsE]; omega]
      exact ih i (by simpa using hi)
theorem cellsE_one (x : Ent) : ∀ u ∈ cellsE x, u.oneCell' = true := by
  intro u hu
  simp [cellsE] at hu
  rcases hu with rfl | rfl | rfl | rfl | rfl <;> rfl
/-- A slice of entries, readable. -/
structure LA (w : World) (a : Option Addr) (n cap : Nat) (l : List En) : Prop where
  len : n = l.length
  le : n ≤ cap
  mx : cap ≤ 9223372036854775807
  row : ∃ es : List Ent, es.length = l.length ∧ (∀ (i : Nat) (x : Ent) (y : En), es[i]? = some x → l[i]? = some y → SameE x y ∧ Byt w x.da x.dl x.dc y.d) ∧
    (0 < n → ∃ b o, a = some ⟨b, o, none⟩ ∧ b < w.heap.size ∧ ∀ (j : Nat) (u : Value), (rowE es)[j]? = some u → w.cell? ⟨b, o + j, none⟩ = some u)
/-- A typed slice of entries. -/
structure TE (w : World) (a : Option Addr) (n cap : Nat) (l : List En) : Prop where
  len : n = l.length
  le : n ≤ cap
  mx : cap ≤ 9223372036854775807
  row : ∃ es : List Ent, es.length = l.length ∧ (∀ (i : Nat) (x : Ent) (y : En), es[i]? = some x → l[i]? = some y → SameE x y ∧ TB w x.da x.dl x.dc y.d) ∧
    (0 < n → ∃ b o cs, a = some ⟨b, o, none⟩ ∧ w.heap[b]? = some (.cells cs 69 (0, 0)) ∧ ∀ (j : Nat) (u : Value), (rowE es)[j]? = some u → cs[o + j]? = some u)
theorem TE.la {w : World} {a : Option Addr} {n cap : Nat} {l : List En} (h : TE w a n cap l) : LA w a n cap l := by
  obtain ⟨es, h1, h2, h3⟩ := h.row
  refine ⟨h.len, h.le, h.mx, es, h1, fun i x y hx hy => ⟨(h2 i x y hx hy).1, (h2 i x y hx hy).2.byt⟩, fun hn => ?_⟩
  obtain ⟨b, o, cs, ha, hb, hc⟩ := h3 hn
  exact ⟨b, o, ha, (Array.getElem?_eq_some_iff.1 hb).1, fun j u hu => cell_of hb (hc j u hu)⟩
theorem TE.tf {w w' : World} {a : Option Addr} {n cap : Nat} {l : List En} (h : TE w a n cap l) (k : Tf w w') : TE w' a n cap l := by
  obtain ⟨es, h1, h2, h3⟩ := h.row
  refine ⟨h.len, h.le, h.mx, es, h1, fun i x y hx hy => ⟨(h2 i x y hx hy).1, (h2 i x y hx hy).2.ty k.u⟩, fun hn => ?_⟩
  obtain ⟨b, o, cs, ha, hb, hc⟩ := h3 hn
  exact ⟨b, o, cs, ha, k.e b cs hb, hc⟩
theorem LA.bel {w w' : World} {a : Option Addr} {n cap : Nat} {l : List En} (h : LA w a n cap l) (k : Below w.heap.size w w') : LA w' a n cap l := by
  obtain ⟨es, h1, h2, h3⟩ := h.row
  refine ⟨h.len, h.le, h.mx, es, h1, fun i x y hx hy => ⟨(h2 i x y hx hy).1, (h2 i x y hx hy).2.bel k⟩, fun hn => ?_⟩
  obtain ⟨b, o, ha, hb, hc⟩ := h3 hn
  exact ⟨b, o, ha, Nat.lt_of_lt_of_le hb k.size, fun j u hu => (k.cell (p := ⟨b, o + j, none⟩) hb).trans (hc j u hu)⟩
theorem LA.nil (w : World) (a : Option Addr) (cap : Nat) (h : cap ≤ 9223372036854775807) : LA w a 0 cap [] := ⟨rfl, by omega, h, [], rfl, fun i x y hx => by simp at hx, fun hh => absurd hh (by omega)⟩
theorem TE.nil (w : World) (a : Option Addr) (cap : Nat) (h : cap ≤ 9223372036854775807) : TE w a 0 cap [] := ⟨rfl, by omega, h, [], rfl, fun i x y hx => by simp at hx, fun hh => absurd hh (by omega)⟩
/-- An entry of it. -/
theorem LA.ent {w : World} {a : Option Addr} {n cap k : Nat} {l : List En} {y : En} (h : LA w a n cap l) (hy : l[k]? = some y) :
    ∃ b o xa xn xc, a = some ⟨b, o, none⟩ ∧ b < w.heap.size ∧ w.cell? ⟨b, o + k * 5, none⟩ = some (.int .i64 y.term) ∧ w.cell? ⟨b, o + k * 5 + 1, none⟩ = some (.int .i8 y.kind) ∧ w.cell? ⟨b, o + k * 5 + 2, none⟩ = some (.int .i64 y.stamp) ∧
      w.cell? ⟨b, o + k * 5 + 3, none⟩ = some (.int .u8 y.set) ∧ w.cell? ⟨b, o + k * 5 + 4, none⟩ = some (.slice xa xn xc) ∧ Byt w xa xn xc y.d := by
  obtain ⟨es, h1, h2, h3⟩ := h.row
  have hk : k < es.length := by rw [h1]; exact (List.getElem?_eq_some_iff.1 hy).1
  obtain ⟨b, o, ha, hb, hc⟩ := h3 (by rw [h.len]; omega)
  have hx := List.getElem?_eq_getElem hk
  obtain ⟨⟨e0, e1, e2, e3⟩, hd⟩ := h2 k _ y hx hy
  have e := fun j hj => rowE_at es k j _ hx hj
  refine ⟨b, o, (es[k]).da, (es[k]).dl, (es[k]).dc, ha, hb, ?_, ?_, ?_, ?_, ?_, hd⟩
  · exact hc (k * 5) _ (by rw [← Nat.add_zero (k * 5), e 0 (by omega), ← e0]; rfl)
  · rw [Nat.add_assoc]; exact hc (k * 5 + 1) _ (by rw [e 1 (by omega), ← e1]; rfl)
  · rw [Nat.add_assoc]; exact hc (k * 5 + 2) _ (by rw [e 2 (by omega), ← e2]; rfl)
  · rw [Nat.add_assoc]; exact hc (k * 5 + 3) _ (by rw [e 3 (by omega), ← e3]; rfl)
  · rw [Nat.add_assoc]; exact hc (k * 5 + 4) _ (by rw [e 4 (by omega)]; rfl)
/-- A round of copying entries. -/
def Rnd (w : World) (l : List En) (v : Value) (k : Nat) (wr : World) : Prop :=
  ∃ es : List Ent, wr.ownsRow w.heap.size 69 5 v k (rowE es) ∧ es.length = k ∧ (∀ (i : Nat) (x : Ent) (y : En), es[i]? = some x → l[i]? = some y → SameE x y ∧ TB wr x.da x.dl x.dc y.d) ∧ Below w.heap.size w wr
theorem own_bel {w w' : World} {base : Nat} {e : TypeId} {size : Nat} {v : Value} {n : Nat} {xs : List Value} (h : w.ownsRow base e size v n xs) (k : Below w.heap.size w w') : w'.ownsRow base e size v n xs := by
  refine ⟨h.1, ?_⟩
  rcases h.2 with hh | ⟨g, cap, cur, h1, h2, h3, h4⟩
  · exact .inl hh
  · exact .inr ⟨g, cap, cur, h1, h2, (k.block g (Array.getElem?_eq_some_iff.1 h3).1).trans h3, h4⟩
theorem Rnd.start (w : World) (l : List En) : Rnd w l (.slice none 0 0) 0 w := ⟨[], World.ownsRow_nil _ _ _ _, rfl, fun i x y hx => by simp at hx, Below.refl _ _⟩
/-- One entry more: wr at the round's head, w4 where the append begins, w5 behind it. -/
theorem Rnd.next {w : World} {l : List En} {es : List Ent} {k : Nat} {wr w4 w5 : World} {v v5 : Value} {y : En} {a1 : Option Addr} {n1 c1 : Nat} (hy : l[k]? = some y)
    (hes : wr.ownsRow w.heap.size 69 5 v k (rowE es)) (hl : es.length = k) (hp : ∀ (i : Nat) (x : Ent) (y : En), es[i]? = some x → l[i]? = some y → SameE x y ∧ TB wr x.da x.dl x.dc y.d) (hB : Below w.heap.size w wr)
    (h4 : Below wr.heap.size wr w4) (hbyt : TB w4 a1 n1 c1 y.d) (hown : w5.ownsRow w.heap.size 69 5 v5 (k + 1) (rowE es ++ cellsE ⟨y.term, y.kind, y.stamp, y.set, a1, n1, c1⟩)) (hg : w4.grownBy w5 v.ownBlock) : Rnd w l v5 (k + 1) w5 := by
  have hes4 := own_bel hes h4
  have hu : Ty 5 w4 w5 := Ty.grown hes4 hg u8_ne_entry
  refine ⟨es ++ [⟨y.term, y.kind, y.stamp, y.set, a1, n1, c1⟩], by rw [rowE_snoc]; exact hown, by simp [hl], fun i x z hx hz => ?_, ?_⟩
  · by_cases hi : i < es.length
    · rw [List.getElem?_append_left hi] at hx
      obtain ⟨q1, q2⟩ := hp i x z hx hz
      exact ⟨q1, (q2.ty (Ty.of h4)).ty hu⟩
    · rw [List.getElem?_append_right (by omega)] at hx
      have hik : i - es.length = 0 := by
        have := (List.getElem?_eq_some_iff.1 hx).1
        simp at this
        omega
      rw [hik] at hx
      simp at hx
      subst hx
      have : i = k := by omega
      subst this
      rw [hy] at hz
      cases hz
      exact ⟨⟨rfl, rfl, rfl, rfl⟩, hbyt.ty hu⟩
  · have hB4 := hB.trans (h4.mono hB.size)
    exact hB4.grown hg hB4.size (fun q hq => (hes.lt q hq).1)
theorem Rnd.te {w : World} {l : List En} {v : Value} {wr : World} {n : Nat} (h : Rnd w l v n wr) (hn : n = l.length) : (∃ a c, v = .slice a n c ∧ TE wr a n c l) ∧ Below w.heap.size w wr := by
  obtain ⟨es, h1, h2, h3, h4⟩ := h
  refine ⟨?_, h4⟩
  rcases h1.2 with ⟨rfl, h0⟩ | ⟨g, cap', cur, rfl, k1, k2, k3, k4, k5, k6⟩
  · subst h0
    have hd : l = [] := List.eq_nil_of_length_eq_zero hn.symm
    subst hd
    exact ⟨_, _, rfl, TE.nil _ _ _ (by omega)⟩
  · refine ⟨_, _, rfl, hn, by simpa using k3, by simpa [maxLen] using k4, es, by omega, h3, fun hp => ⟨g, 0, cur, rfl, k2, fun j u hu => ?_⟩⟩
    have hj : j < (rowE es).length := (List.getElem?_eq_some_iff.1 hu).1
    rw [rowE_len] at hj
    have := h1.cellAt j (by omega)
    unfold World.cell? at this
    simp only [k2] at this
    rw [hu] at this
    rw [Nat.zero_add]
    simpa using this

/-- A message: what it says, and as it lies. -/
structure Fl where
  k : Int
  fr : Int
  to : Int
  te : Int
  ix : Int
  la : Int
  co : Int
  ok : Bool
  si : Int
  st : Int
  su : Int
structure Mg where
  f : Fl
  es : List En
  sd : List Nat
  dd : List Nat
structure RM where
  f : Fl
  ea : Option Addr
  en : Nat
  ec : Nat
  sa : Option Addr
  sn : Nat
  sc : Nat
  da : Option Addr
  dn : Nat
  dc : Nat
def fl0 : Fl := ⟨0, 0, 0, 0, 0, 0, 0, false, 0, 0, 0⟩
def rm0 : RM := ⟨fl0, none, 0, 0, none, 0, 0, none, 0, 0⟩
def mg0 : Mg := ⟨fl0, [], [], []⟩
def cellsM (m : RM) : List Value := [.int .i8 m.f.k, .int .i64 m.f.fr, .int .i64 m.f.to, .int .i64 m.f.te, .int .i64 m.f.ix, .int .i64 m.f.la, .int .i64 m.f.co, .bool m.f.ok, .slice m.ea m.en m.ec, .int .i64 m.f.si, .int .i64 m.f.st, .int .u8 m.f.su, .slice m.sa m.sn m.sc, .slice m.da m.dn m.dc]
/-- Readable. -/
structure IsM (w : World) (r : RM) (m : Mg) : Prop where
  f : r.f = m.f
  e : LA w r.ea r.en r.ec m.es
  s : Byt w r.sa r.sn r.sc m.sd
  d : Byt w r.da r.dn r.dc m.dd
/-- Typed. -/
structure TM (w : World) (r : RM) (m : Mg) : Prop where
  f : r.f = m.f
  e : TE w r.ea r.en r.ec m.es
  s : TB w r.sa r.sn r.sc m.sd
  d : TB w r.da r.dn r.dc m.dd
theorem TM.is {w : World} {r : RM} {m : Mg} (h : TM w r m) : IsM w r m := ⟨h.f, h.e.la, h.s.byt, h.d.byt⟩
theorem TM.tf {w w' : World} {r : RM} {m : Mg} (h : TM w r m) (k : Tf w w') : TM w' r m := ⟨h.f, h.e.tf k, h.s.ty k.u, h.d.ty k.u⟩
theorem TM.bel {w w' : World} {r : RM} {m : Mg} (h : TM w r m) (k : Below w.heap.size w w') : TM w' r m := h.tf (Tf.of k)
theorem IsM.bel {w w' : World} {r : RM} {m : Mg} (h : IsM w r m) (k : Below w.heap.size w w') : IsM w' r m := ⟨h.f, h.e.bel k, h.s.bel k, h.d.bel k⟩
theorem TM.zero (w : World) : TM w rm0 mg0 := ⟨rfl, TE.nil w none 0 (by omega), TB.nil w none 0 (by omega), TB.nil w none 0 (by omega)⟩
/-- So many entries, of so many bytes. -/
structure Sm (m : Mg) : Prop where
  e : m.es.length ≤ 20000
  y : ∀ y ∈ m.es, y.d.length ≤ 20000
  s : m.sd.length ≤ 20000
  d : m.dd.length ≤ 20000
theorem Sm.zero : Sm mg0 := ⟨by simp [mg0], fun y hy => by simp [mg0] at hy, by simp [mg0], by simp [mg0]⟩
/-- What a copy is. -/
def CpM (w : World) (m : Mg) (e : Ending) (w' : World) : Prop := ∃ r, e = .returned (.agg #[.int .i8 m.f.k, .int .i64 m.f.fr, .int .i64 m.f.to, .int .i64 m.f.te, .int .i64 m.f.ix, .int .i64 m.f.la, .int .i64 m.f.co, .bool m.f.ok, .slice r.ea r.en r.ec, .int .i64 m.f.si, .int .i64 m.f.st, .int .u8 m.f.su, .slice r.sa r.sn r.sc, .slice r.da r.dn r.dc]) ∧ TM w' r m ∧ Below w.heap.size w w'
end Am
theorem info_u8P : (Try.prog.info? 5).map (fun i => (i.zero, i.size, i.bytes)) = some (some (.int .u8 0), 1, 1) := by kernel_rfl
theorem info_entryP : (Try.prog.info? 69).map (fun i => (i.zero, i.size, i.bytes)) = some (some (.agg #[.int .i64 0, .int .i8 0, .int .i64 0, .int .u8 0, .slice none 0 0]), 5, 56) := by kernel_rfl
end Go.Proofs.Ytnokojobiaddmaa
