/- Bytes with what they say; frames; rows of one's own, maybe sliced anew. -/
import Derived.Test.YtnokojobiaddmaaBase
import Derived.Deep.RegionLaw
import Derived.Deep.RegionLawGrows
namespace Go.Proofs.Ytnokojobiaddmaa
open Go.ChangeShapes Go.WideShapes Go.ChangeAt Go.RowKit
set_option linter.unusedVariables false
set_option linter.unusedSimpArgs false
open BigFrame Bs

namespace By
/-- A slice of bytes that reads as d. -/
structure Byt (w : World) (a : Option Addr) (n cap : Nat) (d : List Nat) : Prop where
  len : n = d.length
  le : n ≤ cap
  mx : cap ≤ 9223372036854775807
  row : 0 < n → ∃ b o, a = some ⟨b, o, none⟩ ∧ b < w.heap.size ∧ ∀ i x, d[i]? = some x → w.cell? ⟨b, o + i, none⟩ = some (.int .u8 (x : Nat)) ∧ x < 256
theorem Byt.nil (w : World) (a : Option Addr) (cap : Nat) (h : cap ≤ 9223372036854775807) : Byt w a 0 cap [] := ⟨rfl, by omega, h, fun hh => absurd hh (by omega)⟩
theorem Byt.bel {w w' : World} {a : Option Addr} {n cap : Nat} {d : List Nat} (h : Byt w a n cap d) (k : Below w.heap.size w w') : Byt w' a n cap d :=
  ⟨h.len, h.le, h.mx, fun hn => by
    obtain ⟨b, o, ha, hb, hc⟩ := h.row hn
    exact ⟨b, o, ha, Nat.lt_of_lt_of_le hb k.size, fun i x hx => ⟨(k.cell (p := ⟨b, o + i, none⟩) hb).trans (hc i x hx).1, (hc i x hx).2⟩⟩⟩
theorem Byt.set {w : World} {a : Option Addr} {n cap : Nat} {d : List Nat} (h : Byt w a n cap d) {p : Addr} {v0 : Value} (hp : w.cell? p = some v0) (hv : ∀ x, v0 ≠ .int .u8 x) (v : Value) : Byt (w.setCell p v) a n cap d :=
  ⟨h.len, h.le, h.mx, fun hn => by
    obtain ⟨b, o, ha, hb, hc⟩ := h.row hn
    exact ⟨b, o, ha, by simpa using hb, fun i x hx => ⟨(World.cell?_setCell_other _ _ _ _ (fun e => by
      have := (hc i x hx).1
      rw [← e, hp] at this
      cases this
      exact hv _ rfl)).trans (hc i x hx).1, (hc i x hx).2⟩⟩⟩
theorem Byt.lt {w : World} {a : Option Addr} {n cap : Nat} {d : List Nat} (h : Byt w a n cap d) : ∀ x ∈ d, x < 256 := fun x hx => by
  obtain ⟨i, hi, rfl⟩ := List.getElem_of_mem hx
  obtain ⟨b, o, _, _, hc⟩ := h.row (by rw [h.len]; omega)
  exact (hc i _ (List.getElem?_eq_getElem hi)).2
def bvals (l : List Nat) : List Value := l.map fun x : Nat => Value.int .u8 (x : Int)
theorem bvals_len (l : List Nat) : (bvals l).length = l.length := by simp [bvals]
theorem bvals_one (l : List Nat) : ∀ u ∈ bvals l, u.oneCell' = true := by
  intro u hu
  obtain ⟨x, _, rfl⟩ := List.mem_map.1 hu
  rfl
theorem bvals_at {l : List Nat} {i : Nat} {u : Value} (h : (bvals l)[i]? = some u) : ∃ x : Nat, l[i]? = some x ∧ u = .int .u8 (x : Int) := by
  unfold bvals at h
  rw [List.getElem?_map] at h
  cases hx : l[i]? with
  | none => rw [hx] at h; cases h
  | some x => rw [hx] at h; exact ⟨x, rfl, by simpa using h.symm⟩
theorem Byt.of_own {w : World} {base g c n : Nat} {d : List Nat} (h : w.ownsRow base 5 1 (.slice (some ⟨g, 0, none⟩) n c) n (bvals d)) (hd : ∀ x ∈ d, x < 256) (hn : n = d.length) : Byt w (some ⟨g, 0, none⟩) n c d := by
  rcases h.2 with ⟨hh, _⟩ | ⟨g', cap', cur, hh, hbg, hhp, hnc, hcm, hsz, htk⟩
  · cases hh
  · cases hh
    refine ⟨hn, by simpa using hnc, hcm, fun hp => ⟨g, 0, rfl, h.lt g rfl |>.2, fun i x hx => ⟨?_, hd x (List.mem_of_getElem? hx)⟩⟩⟩
    have hi : i < d.length := (List.getElem?_eq_some_iff.1 hx).1
    rw [Nat.zero_add, h.cellAt i (by omega), bvals, List.getElem?_map, hx]
    rfl

section
variable {P : Program}
theorem run_append_zero (w : World) (base : Nat) (t ty e : TypeId) (i : TypeInfo) (size : Nat) (ht : P.underlying t = some (.slice e)) (hi : P.info? e = some i)
    (v : Value) (n : Nat) (xs : List Value) (hown : w.ownsRow base e size v n xs) (b : Option Addr) (d : Nat) :
    (Builtin.append_ #[t, t] ty #[v, .slice b 0 d]).run P w = .ok v w := by
  have hf := run_firstCells_some (P := P) w i.size 0
  cases b with
  | none =>
    rcases hown.2 with ⟨rfl, rfl⟩ | ⟨g, cap, cur, rfl, _, _, hnc, _⟩
    · simp [Builtin.append_, run_underlying ht, sizeOf, typeInfo, hi, Builtin.lenOf, Builtin.firstCells]
    · simp [Builtin.append_, run_underlying ht, sizeOf, typeInfo, hi, Builtin.lenOf, Builtin.firstCells, hnc, storeCells]
  | some ad =>
    have hc := hf ad 0 d [] (by simp) (by intro j u h; simp at h)
    rcases hown.2 with ⟨rfl, rfl⟩ | ⟨g, cap, cur, rfl, _, _, hnc, _⟩
    · simp [Builtin.append_, run_underlying ht, sizeOf, typeInfo, hi, Builtin.lenOf, hc]
    · simp [Builtin.append_, run_underlying ht, sizeOf, typeInfo, hi, Builtin.lenOf, hnc, storeCells, hc]

/-- 'append(v, x...)' onto a row of the call's own, whatever the source: nil, empty or not. -/
theorem wpList_append_src {w : World} {ops : Array Oper} {rest : List Oper} {o : Oper} {a : Act} {Q : Exit → Act → World → Prop} (hgd : o.guard = none) (s x : Operand) (t : TypeId)
    (ho : o.op = .call { callee := .builtin .append, args := #[s, x], argTypes := #[t, t] })
    (base : Nat) (e : TypeId) (i : TypeInfo) (z : Value) (size bytes : Nat) (ht : P.underlying t = some (.slice e)) (hi : P.info? e = some i) (hz : i.zero = some z)
    (hsize : i.size = size) (hby : i.bytes = bytes) (hzs : z.cells.size = size) (hsz : 0 < size)
    (v : Value) (n : Nat) (xs : List Value) (hs : a.eval s = v) (hown : w.ownsRow base e size v n xs)
    (b : Option Addr) (m c : Nat) (news : List Value) (hx : a.eval x = .slice b m c) (hl : news.length = m * size) (hnews : 0 < m → ∃ ad, b = some ad ∧ ∀ j u, news[j]? = some u → w.cell? (ad.add j) = some u) (h1 : ∀ u ∈ news, u.oneCell' = true)
    (h63 : n + m ≤ maxLen) (hbytes : (n + m) * bytes ≤ 140737488355328) (hbase : base ≤ w.heap.size)
    (h : ∀ v' w', w'.ownsRow base e size v' (n + m) (xs ++ news) → w.grownBy w' v.ownBlock → (v'.ownBlock = v.ownBlock ∨ v'.ownBlock = some w.heap.size) → wpList P ops Q rest (a.put o.dst v') w') : wpList P ops Q (o :: rest) a w := by
  by_cases hm : m = 0
  · subst hm
    obtain rfl : news = [] := by simpa using hl
    have hrun := run_append_zero (P := P) w base t o.type e i size ht hi _ n xs hown b c
    refine wpList_plain hgd fun K hK => ?_
    unfold Oper.wp
    have hw : w.grownBy w v.ownBlock := ⟨rfl, rfl, rfl, Nat.le_refl _, fun _ _ _ => rfl⟩
    have hq := h v w (by simpa using hown) hw (.inl rfl)
    simp [execOp, ho, resolve, invoke, builtin, hs, hx, hrun, Result.andThen]
    exact hK _ _ hq
  · obtain ⟨ad, rfl, hcells⟩ := hnews (by omega)
    refine wpList_append_lies w hgd s x t ho base e i z size bytes ht hi hz hsize hby hzs hsz v n xs hs hown ad m c news hx hl hcells h1 (by omega) h63 hbytes hbase _ rfl (fun g cap w' h2 h3 h4 h5 => ?_)
    refine h _ w' h2 h3 ?_
    rcases h4 with h4 | h4
    · exact .inl (by rw [h4]; rfl)
    · exact .inr (by rw [h4]; rfl)
end
/-- It lies from block m on, if it holds anything. -/
def Far (m : Nat) (a : Option Addr) (n : Nat) : Prop := 0 < n → ∃ g o, a = some ⟨g, o, none⟩ ∧ m ≤ g
theorem Far.mono {m m' : Nat} {a : Option Addr} {n : Nat} (h : Far m a n) (k : m' ≤ m) : Far m' a n := fun hn => by
  obtain ⟨g, o, h1, h2⟩ := h hn
  exact ⟨g, o, h1, by omega⟩
theorem Far.zero (m : Nat) (a : Option Addr) : Far m a 0 := fun h => absurd h (by omega)
/-- What 'Clone' gives of bytes. -/
def CloB (w : World) (n : Nat) (d : List Nat) (e : Ending) (w' : World) : Prop := ∃ a c, e = .returned (.slice a n c) ∧ Byt w' a n c d ∧ Far w.heap.size a n ∧ Below w.heap.size w w'
theorem Byt.of_own' {w : World} {base n n' : Nat} {v : Value} {d : List Nat} (h : w.ownsRow base 5 1 v n' ([] ++ bvals d)) (hd : ∀ x ∈ d, x < 256) (hn : n = d.length) (hn' : n' = n) : ∃ a c, v = .slice a n c ∧ Byt w a n c d := by
  subst hn'
  rw [List.nil_append] at h
  rcases h.2 with ⟨rfl, rfl⟩ | ⟨g, cap', cur, rfl, _⟩
  · have hd : d = [] := List.eq_nil_of_length_eq_zero hn.symm
    subst hd
    exact ⟨_, _, rfl, Byt.nil _ _ _ (by omega)⟩
  · exact ⟨_, _, rfl, Byt.of_own h hd hn⟩
theorem Byt.grown {w w' : World} {a : Option Addr} {n cap : Nat} {d : List Nat} {row : Option Nat} (h : Byt w a n cap d) (hg : w.grownBy w' row) (hne : 0 < n → ∀ ad, a = some ad → some ad.block ≠ row) : Byt w' a n cap d :=
  ⟨h.len, h.le, h.mx, fun hn => by
    obtain ⟨b, o, ha, hb, hc⟩ := h.row hn
    exact ⟨b, o, ha, Nat.lt_of_lt_of_le hb hg.size, fun i x hx => ⟨(World.cell?_of_block (a := ⟨b, o + i, none⟩) (hg.block b hb (hne hn _ ha))).trans (hc i x hx).1, (hc i x hx).2⟩⟩⟩
/-- All blocks but some are as they were. -/
structure KF (l : List Nat) (w w' : World) : Prop where
  b : Below 0 w w'
  k : ∀ i, i < w.heap.size → i ∉ l → w'.heap[i]? = w.heap[i]?
theorem KF.size {l : List Nat} {w w' : World} (h : KF l w w') : w.heap.size ≤ w'.heap.size := h.b.size
theorem KF.refl (l : List Nat) (w : World) : KF l w w := ⟨Below.refl _ _, fun _ _ _ => rfl⟩
theorem KF.trans {l : List Nat} {u v w : World} (h : KF l u v) (k : KF l v w) : KF l u w :=
  ⟨h.b.trans k.b, fun i h1 h2 => (k.k i (Nat.lt_of_lt_of_le h1 h.b.size) h2).trans (h.k i h1 h2)⟩
theorem KF.of {l : List Nat} {w w' : World} (h : Below w.heap.size w w') : KF l w w' := ⟨h.mono (Nat.zero_le _), fun i h2 _ => h.block i h2⟩
theorem KF.sub {l l2 : List Nat} {u w : World} (h : KF l u w) (hs : ∀ i, i ∈ l → i ∈ l2) : KF l2 u w := ⟨h.b, fun i h1 h2 => h.k i h1 (fun q => h2 (hs i q))⟩
theorem KF.set {l : List Nat} {u w : World} (h : KF l u w) {p : Addr} (hp : p.block ∈ l ∨ u.heap.size ≤ p.block) (v : Value) : KF l u (w.setCell p v) :=
  ⟨h.b.setCell (Nat.zero_le _) v, fun i h1 h2 => (Below.heap_setCell w p v i (fun e => hp.elim (fun q => h2 (e ▸ q)) (fun q => by omega))).trans (h.k i h1 h2)⟩
theorem KF.drew {l : List Nat} {u w : World} (h : KF l u w) : KF l u w.drew := ⟨h.b.drew, h.k⟩
theorem KF.blk {l : List Nat} {w w' : World} (h : KF l w w') {b : Nat} {x : List Value} (hb : Blk w b x) (hm : b ∉ l) : Blk w' b x := by
  have e := h.k b hb.l hm
  exact ⟨fun i x hx => (World.cell?_of_block e).trans (hb.c i x hx), fun o => (World.frozen?_of_block e).trans (hb.f o), Nat.lt_of_lt_of_le hb.l h.b.size⟩
theorem KF.below {l : List Nat} {w w' : World} {m : Nat} (h : KF l w w') (hl : ∀ i, i ∈ l → m ≤ i) (hm : m ≤ w.heap.size) : Below m w w' :=
  ⟨h.b.os, h.b.tape, h.b.output, h.b.size, fun k hk => h.k k (by omega) (fun q => by have := hl k q; omega)⟩

theorem setCells_sizeB (b : Nat) : ∀ (vs : List Value) (o : Nat) (w : World), (w.setCells b o vs).heap.size = w.heap.size
  | [], _, _ => rfl
  | v :: r, o, w => by
    show ((w.setCell ⟨b, o, none⟩ v).setCells b (o + 1) r).heap.size = _
    rw [setCells_sizeB b r]; simp
theorem isSome_setCellsB (b : Nat) : ∀ (vs : List Value) (o : Nat) (w : World) (x : Addr), (w.cell? x).isSome = true → ((w.setCells b o vs).cell? x).isSome = true
  | [], _, _, _, h => h
  | v :: r, o, w, x, h => by
    show (((w.setCell ⟨b, o, none⟩ v).setCells b (o + 1) r).cell? x).isSome = true
    refine isSome_setCellsB b r (o + 1) _ x ?_
    by_cases e : (⟨b, o, none⟩ : Addr) = x
    · subst e
      obtain ⟨y, hy⟩ := Option.isSome_iff_exists.1 h
      rw [World.cell?_setCell_same _ _ _ hy]; rfl
    · rw [World.cell?_setCell_other _ _ _ _ e]; exact h
theorem setCells_otherB (b : Nat) : ∀ (vs : List Value) (o : Nat) (w : World) (i : Nat), i ≠ b → (w.setCells b o vs).heap[i]? = w.heap[i]?
  | [], _, _, _, _ => rfl
  | v :: r, o, w, i, h => by
    show ((w.setCell ⟨b, o, none⟩ v).setCells b (o + 1) r).heap[i]? = _
    rw [setCells_otherB b r (o + 1) _ i h]
    exact Below.heap_setCell w ⟨b, o, none⟩ v i (fun e => h e)
theorem belowSetCells {m : Nat} {A : World} : ∀ {w : World} (_ : Below m A w) (b : Nat) (_ : m ≤ b) (vs : List Value) (o : Nat), Below m A (w.setCells b o vs)
  | _, h, _, _, [], _ => h
  | _, h, b, hb, v :: r, o => belowSetCells (h.setCell (p := ⟨b, o, none⟩) hb v) b hb r (o + 1)

theorem Byt.setFar {w : World} {a : Option Addr} {n c m b o : Nat} {d : List Nat} {v : Value} (h : Byt w a n c d) (f : Far m a n) (hb : b < m) : Byt (w.setCell ⟨b, o, none⟩ v) a n c d :=
  ⟨h.len, h.le, h.mx, fun hn => by
    obtain ⟨b2, o2, ha, hb2, hc⟩ := h.row hn
    obtain ⟨g, o3, ha3, hg⟩ := f hn
    rw [ha] at ha3
    cases ha3
    exact ⟨b2, o2, ha, by simpa using hb2, fun i x hx => ⟨(World.cell?_setCell_other _ _ _ _ (by simp <;> omega)).trans (hc i x hx).1, (hc i x hx).2⟩⟩⟩
theorem Far.notin {m n : Nat} {a : Option Addr} {l : List Nat} (f : Far m a n) (hl : ∀ q, q ∈ l → q < m) : 0 < n → ∀ ad, a = some ad → ad.block ∉ l := fun hn ad e q => by
  obtain ⟨g, o, e2, hg⟩ := f hn
  rw [e] at e2
  cases e2
  have := hl _ q
  simp only at this
  omega
theorem KF.grown1 {u w5 : World} {b : Option Nat} (g : u.grownBy w5 b) : KF b.toList u w5 :=
  ⟨⟨g.os, g.tape, g.output, g.size, fun k hk => absurd hk (Nat.not_lt_zero _)⟩, fun i h1 h2 => g.block i h1 (fun e => h2 (by rw [← e]; simp))⟩
theorem KF.byt {l : List Nat} {w w' : World} (h : KF l w w') {a : Option Addr} {n c : Nat} {d : List Nat} (hb : Byt w a n c d) (hm : 0 < n → ∀ ad, a = some ad → ad.block ∉ l) : Byt w' a n c d :=
  ⟨hb.len, hb.le, hb.mx, fun hn => by
    obtain ⟨b, o, ha, hbl, hc⟩ := hb.row hn
    exact ⟨b, o, ha, Nat.lt_of_lt_of_le hbl h.size, fun i x hx => ⟨(World.cell?_of_block (h.k b hbl (hm hn _ ha))).trans (hc i x hx).1, (hc i x hx).2⟩⟩⟩
/-- The block of an address, as a list. -/
def blkO (a : Option Addr) : List Nat := (a.map (fun x => x.block)).toList
theorem blkO_none : blkO none = [] := rfl
theorem blkO_some (ad : Addr) : blkO (some ad) = [ad.block] := rfl
theorem mem_blkO {a : Option Addr} {b : Nat} : b ∈ blkO a ↔ ∃ ad, a = some ad ∧ ad.block = b := by
  cases a with
  | none => simp [blkO]
  | some ad => simp [blkO]; exact eq_comm
/-- A row of one's own, maybe sliced anew: what it holds, what is free behind it. -/
structure RowG (w : World) (size : Nat) (a : Option Addr) (n cap : Nat) (vs : List Value) : Prop where
  len : vs.length = n * size
  le : n ≤ cap
  mx : cap ≤ 9223372036854775807
  nil : a = none → n = 0 ∧ cap = 0
  row : ∀ ad, a = some ad → ∃ b off, ad = ⟨b, off, none⟩ ∧ b < w.heap.size ∧ (∀ j u, vs[j]? = some u → w.cell? ⟨b, off + j, none⟩ = some u) ∧ (∀ j, j < cap * size → (w.cell? ⟨b, off + j, none⟩).isSome = true) ∧ (∀ o, w.frozen? ⟨b, o, none⟩ = false)
theorem RowG.emp (w : World) (size : Nat) : RowG w size none 0 0 [] := ⟨by simp, Nat.le_refl _, by omega, fun _ => ⟨rfl, rfl⟩, fun ad e => by cases e⟩
theorem RowG.kf {l : List Nat} {w w' : World} {size n cap : Nat} {a : Option Addr} {vs : List Value} (h : RowG w size a n cap vs) (k : KF l w w') (hl : ∀ b, b ∈ blkO a → b ∉ l) : RowG w' size a n cap vs :=
  ⟨h.len, h.le, h.mx, h.nil, fun ad e => by
    obtain ⟨b, off, rfl, hb, h1, h2, h3⟩ := h.row ad e
    have q := k.k b hb (hl b (by rw [e]; simp [blkO]))
    exact ⟨b, off, rfl, Nat.lt_of_lt_of_le hb k.size, fun j u hu => (World.cell?_of_block q).trans (h1 j u hu), fun j hj => by rw [World.cell?_of_block (a := ⟨b, off + j, none⟩) q]; exact h2 j hj, fun o => (World.frozen?_of_block q).trans (h3 o)⟩⟩
theorem RowG.bel {w w' : World} {size n cap : Nat} {a : Option Addr} {vs : List Value} (h : RowG w size a n cap vs) (k : Below w.heap.size w w') : RowG w' size a n cap vs := h.kf (KF.of k) (l := []) (fun b hb => by simp)
theorem RowG.lt {w : World} {size n cap : Nat} {a : Option Addr} {vs : List Value} (h : RowG w size a n cap vs) {b : Nat} (hb : b ∈ blkO a) : b < w.heap.size := by
  obtain ⟨ad, e, rfl⟩ := mem_blkO.1 hb
  obtain ⟨b, off, rfl, hb, _⟩ := h.row ad e
  exact hb
theorem RowG.of_own {w : World} {base : Nat} {e : TypeId} {size n : Nat} {v : Value} {vs : List Value} (h : w.ownsRow base e size v n vs) : ∃ a c, v = .slice a n c ∧ RowG w size a n c vs ∧ ∀ b, b ∈ blkO a → base ≤ b := by
  rcases h.2 with ⟨rfl, rfl⟩ | ⟨g, cap, cur, rfl, hb, hh, hnc, hcm, hsz, htk⟩
  · obtain rfl : vs = [] := List.eq_nil_of_length_eq_zero (by simpa using h.1)
    exact ⟨_, _, rfl, RowG.emp w size, fun b hb => by simp [blkO] at hb⟩
  · refine ⟨_, _, rfl, ⟨h.1, hnc, hcm, fun e => by (cases e), fun ad e => ?_⟩, fun b hb' => by simp [blkO] at hb'; omega⟩
    cases e
    refine ⟨g, 0, rfl, (h.lt g rfl).2, fun j u hu => ?_, fun j hj => ?_, fun o => h.frozenAt o⟩
    · rw [Nat.zero_add, h.cellAt j (by have := (List.getElem?_eq_some_iff.1 hu).1; rw [h.1] at this; exact this)]
      exact hu
    · rw [Nat.zero_add]
      simp [World.cell?, hh, hsz, hj]
section
variable {w : World} {size n cap : Nat} {vs news : List Value}
theorem RowG.push_room {b off : Nat} (h : RowG w size (some ⟨b, off, none⟩) n cap vs) (hn : news.length = size) (hr : n + 1 ≤ cap) :
    RowG (w.setCells b (off + n * size) news) size (some ⟨b, off, none⟩) (n + 1) cap (vs ++ news) ∧ KF [b] w (w.setCells b (off + n * size) news) := by
  obtain ⟨b2, off2, e, hb, h1, h2, h3⟩ := h.row _ rfl
  cases e
  have hsp : ∀ j, j < news.length → (w.cell? ⟨b, off + n * size + j, none⟩).isSome = true := fun j hj => by
    rw [Nat.add_assoc]
    refine h2 _ ?_
    have : (n + 1) * size ≤ cap * size := Nat.mul_le_mul_right _ hr
    rw [Nat.add_mul, Nat.one_mul] at this
    omega
  have hk := World.keptBut_setCells b (may := fun _ => True) news (off + n * size) w (fun _ _ => trivial)
  refine ⟨⟨by rw [List.length_append, h.len, hn, Nat.add_mul, Nat.one_mul], hr, h.mx, fun e => by (cases e), fun ad e => ?_⟩, ?_⟩
  · cases e
    refine ⟨b, off, rfl, by rw [setCells_sizeB]; exact hb, fun j u hu => ?_, fun j hj => ?_, fun o => (World.frozen?_setCells b _ _ _ _).trans (h3 o)⟩
    · by_cases hj : j < vs.length
      · rw [List.getElem?_append_left hj] at hu
        rw [World.cell?_setCells_out b _ _ _ _ (fun _ _ => .inl (by have := h.len; simp only; omega))]
        exact h1 j u hu
      · rw [List.getElem?_append_right (by omega)] at hu
        have hj2 := (List.getElem?_eq_some_iff.1 hu).1
        have q := World.cell?_setCells_in b news (off + n * size) w hsp (j - vs.length) hj2
        rw [show off + n * size + (j - vs.length) = off + j by have := h.len; omega] at q
        rw [q, ← hu]
        exact (List.getElem?_eq_getElem hj2).symm
    · exact isSome_setCellsB b news (off + n * size) w ⟨b, off + j, none⟩ (h2 j hj)
  · refine ⟨?_, fun i hi hne => ?_⟩
    · exact belowSetCells (Below.refl 0 w) b (Nat.zero_le _) news (off + n * size)
    · exact setCells_otherB b news (off + n * size) w i (by simpa using hne)
end
theorem blkN_new (u : World) (l : List Value) (t : TypeId) : Blk (u.alloc (.cells l.toArray t)) u.heap.size l :=
  ⟨fun i z hz => by
    have hi : i < l.length := (List.getElem?_eq_some_iff.1 hz).1
    have h : (u.alloc (.cells l.toArray t)).heap[u.heap.size]? = some (.cells l.toArray t (0, 0)) := heap_alloc_new u _
    unfold World.cell?
    simp only [h]
    simpa using hz,
   fun o => by go_simp, by simp⟩

/-- The append of one element onto such a row. -/
theorem wp_app_row {w : World} {o : Oper} {a : Act} {K : Act → World → Prop} {Q : Exit → Act → World → Prop} (s x : Operand) (t e : TypeId)
    (ho : o.op = .call { callee := .builtin .append, args := #[s, x], argTypes := #[t, t] }) (hg : o.guard = none) (i : TypeInfo) (z : Value) (size bytes : Nat) (h1 : Try.prog.underlying t = some (.slice e)) (h2 : Try.prog.info? e = some i) (h3 : i.zero = some z) (h4 : i.size = size) (h5 : i.bytes = bytes) (h6 : z.cells.size = size) (h7 : 0 < size) (h8 : bytes ≤ 1000)
    (av : Option Addr) (n cap : Nat) (vs news : List Value) (hs : a.eval s = .slice av n cap) (R : RowG w size av n cap vs) {q c : Nat} (hx : a.eval x = .slice (some ⟨q, 0, none⟩) 1 c) (hnl : news.length = size) (hk : ∀ j u, news[j]? = some u → w.cell? ⟨q, j, none⟩ = some u) (h1c : ∀ u ∈ news, u.oneCell' = true) (hl : n ≤ 1000000)
    (hK : ∀ a' c' w', RowG w' size a' (n + 1) c' (vs ++ news) → KF (blkO av) w w' → (∀ b, b ∈ blkO a' → b ∈ blkO av ∨ w.heap.size ≤ b) → K (a.put o.dst (.slice a' (n + 1) c')) w') : o.wp Try.prog a w K Q := by
  have hc : ∀ j u, news[j]? = some u → w.cell? ((⟨q, 0, none⟩ : Addr).add j) = some u := fun j u hu => by rw [Addr.add_lit, Nat.zero_add]; exact hk j u hu
  by_cases hr : n + 1 ≤ cap
  · cases av with
    | none => have := (R.nil rfl).2; omega
    | some ad =>
      obtain ⟨b, off, rfl, hb, r1, r2, r3⟩ := R.row ad rfl
      have hP := R.push_room hnl hr
      have h := step_append_room (ops := #[]) (Q := Q) (E := True) (K := K) hg s x t ho e i size h1 h2 h4 b off n cap hs ⟨q, 0, none⟩ 1 c news hx (by rw [hnl]; omega) hc h1c hr (fun j hj => ⟨by
        rw [Nat.add_assoc]
        refine r2 _ ?_
        have : (n + 1) * size ≤ cap * size := Nat.mul_le_mul_right _ hr
        rw [Nat.add_mul, Nat.one_mul] at this
        omega, r3 _⟩) (hK _ _ _ hP.1 hP.2 (fun b' hb' => .inl hb'))
      rwa [if_pos (by simp [Region.wanted, hg])] at h
  · have h := step_append_grows (ops := #[]) (Q := Q) (E := True) (K := K) (w := w) (a := a) (o := o) hg s x t ho e i z size bytes h1 h2 h3 h4 h5 h6 h7 av n cap vs hs R.nil R.len (fun b hb j u hu => by
        obtain ⟨b2, off, rfl, _, r1, _, _⟩ := R.row b hb
        rw [Addr.add_lit]
        exact r1 j u hu) ⟨q, 0, none⟩ 1 c news hx (by rw [hnl]; omega) hc h1c (by omega) (by unfold maxLen; omega) (by have : (n + 1) * bytes ≤ 1000001 * 1000 := Nat.mul_le_mul (by omega) h8; omega) (fun v' w' hown hgr => by
        obtain ⟨a', c', rfl, hR, hb⟩ := RowG.of_own hown
        refine hK a' c' w' hR ((KF.grown1 hgr).sub (fun i hi => by simp at hi)) (fun b hb' => .inr (hb b hb')))
    rwa [if_pos (by simp [Region.wanted, hg])] at h
end By
open By
theorem info_u8' : (Try.prog.info? 5).map (fun i => (i.zero, i.size, i.bytes)) = some (some (.int .u8 0), 1, 1) := by kernel_rfl
set_option maxRecDepth 100000 in
theorem eqlB_nil (c : Nat) (u : World) : Sem.run Try.prog (binOp BinOp.eql 30 (.slice none 0 c) (.slice none 0 0)) u = .ok (.bool true) u := by rfl
set_option maxRecDepth 100000 in
theorem eqlB_some (a : Addr) (l c : Nat) (u : World) : Sem.run Try.prog (binOp BinOp.eql 30 (.slice (some a) l c) (.slice none 0 0)) u = .ok (.bool false) u := by rfl
attribute [local go_sem] eqlB_nil eqlB_some

set_option maxRecDepth 100000 in
set_option maxHeartbeats 2000000 in
theorem cloneB_c (a : Option Addr) (n cap : Nat) (d : List Nat) (w : World) (h : Byt w a n cap d) (hn2 : n ≤ 1000000) :
    Calls Try.prog 39 #[.slice a n cap] w (CloB w n d) := by
  cases a with
  | none =>
    have hn : n = 0 := by
      rcases Nat.eq_zero_or_pos n with h0 | h0
      · exact h0
      · obtain ⟨b, o, hh, _⟩ := h.row h0; cases hh
    subst hn
    have hd : d = [] := List.eq_nil_of_length_eq_zero h.len.symm
    subst hd
    go_enter Try.func39, Try.ntmps39
    go_wp2_with fail
    go_ret
    exact ⟨_, _, rfl, Byt.nil _ _ _ (by omega), Far.zero _ _, Below.refl _ _⟩
  | some ad =>
    obtain ⟨i0, hi0, hz0, hz1, hz2⟩ := info_parts info_u8'
    have hown0 : (w.alloc (.cells #[] 5)).ownsRow w.heap.size 5 1 (.slice (some ⟨w.heap.size, 0, none⟩) 0 0) 0 [] := World.ownsRow_lit (base := w.heap.size) (e := 5) (size := 1) w #[] 0 (Nat.le_refl _) (by unfold maxLen; omega) (by rfl)
    have hB0 : Below w.heap.size w (w.alloc (.cells #[] 5)) := (Below.refl _ _).alloc (Nat.le_refl _) _
    have hcells : 0 < n → ∃ ad', some ad = some ad' ∧ ∀ j u, (bvals d)[j]? = some u → (w.alloc (.cells #[] 5)).cell? (ad'.add j) = some u := fun hp => by
      obtain ⟨b, o, hh, hb, hc⟩ := h.row hp
      cases hh
      refine ⟨_, rfl, fun j u hu => ?_⟩
      obtain ⟨x, hx, rfl⟩ := bvals_at hu
      rw [Addr.add_lit]
      exact (hB0.cell (p := ⟨b, o + j, none⟩) hb).trans (hc j x hx).1
    have hlen : (bvals d).length = n * 1 := by rw [bvals_len, h.len]; omega
    have hmx : 0 + n ≤ maxLen := by unfold maxLen; omega
    have hlt := h.lt
    have hdl := h.len
    replace hlt := Lib.hid hlt
    replace hdl := Lib.hid hdl
    clear h
    go_enter Try.func39, Try.ntmps39
    go_wp2_with (at_builtin; refine wpList_append_src rfl _ _ 30 (by rfl) w.heap.size 5 i0 _ 1 1 Try.underlying30 hi0 hz0 hz1 hz2 (by rfl) (by omega) _ _ _ (by rfl) hown0 _ n cap _ (by rfl) hlen hcells (bvals_one _) hmx (by omega) hB0.size ?_; intro v1 w3 hown1 hgrow1 hat1)
    rw [Nat.zero_add, List.nil_append] at hown1
    have hB3 : Below w.heap.size w w3 := hB0.grown hgrow1 hB0.size (fun q hq => by have := (hown0.lt q hq).1; omega)
    go_ret
    rcases hown1.2 with ⟨rfl, rfl⟩ | ⟨g, cap', cur, rfl, _⟩
    · have hd : d = [] := List.eq_nil_of_length_eq_zero hdl.out.symm
      subst hd
      exact ⟨_, _, rfl, Byt.nil _ _ _ (by omega), Far.zero _ _, hB3⟩
    · exact ⟨_, _, rfl, Byt.of_own hown1 hlt.out hdl.out, fun _ => ⟨g, 0, rfl, (hown1.lt g rfl).1⟩, hB3⟩

end Go.Proofs.Ytnokojobiaddmaa
