/- The scheduler: what a pick leaves alone; what is told of a flow's head, the part in the closure. -/
import Derived.Test.YtkefkophlhcbiaaMA
namespace Go.Proofs.Ytkefkophlhcbiaa
open Go.ChangeShapes Go.WideShapes Go.ChangeAt Go.RowKit Go.Maps
set_option linter.unusedVariables false
set_option linter.unusedSimpArgs false
open BigFrame Pk Fq Vr Fa

namespace Fa
/-- All blocks but some are as they were. -/
structure KF (l : List Nat) (w w' : World) : Prop where
  b : Below 0 w w'
  k : ∀ i, i < w.heap.size → i ∉ l → w'.heap[i]? = w.heap[i]?
theorem KF.size {l : List Nat} {w w' : World} (h : KF l w w') : w.heap.size ≤ w'.heap.size := h.b.size
theorem KF.refl (l : List Nat) (w : World) : KF l w w := ⟨Below.refl _ _, fun _ _ _ => rfl⟩
theorem KF.trans {l : List Nat} {u v w : World} (h : KF l u v) (k : KF l v w) : KF l u w :=
  ⟨h.b.trans k.b, fun i h1 h2 => (k.k i (Nat.lt_of_lt_of_le h1 h.b.size) h2).trans (h.k i h1 h2)⟩
theorem KF.of {l : List Nat} {w w' : World} (h : Below w.heap.size w w') : KF l w w' := ⟨h.mono (Nat.zero_le _), fun i h2 _ => h.block i h2⟩
theorem KF.sub {l l2 : List Nat} {u w : World} (h : KF l u w) (hs : ∀ i, i ∈ l → i ∈ l2) : KF l2 u w := ⟨h.b, fun i h1 h2 => h.k i h1 (fun q => h2 (hs i q))⟩
theorem KF.set {l : List Nat} {u w : World} (h : KF l u w) {p : Addr} (hp : p.block ∈ l ∨ u.heap.size ≤ p.block) (v : Value) : KF l u (w.setCell p v) :=
  ⟨h.b.setCell (Nat.zero_le _) v, fun i h1 h2 => (Below.heap_setCell w p v i (fun e => hp.elim (fun q => h2 (e ▸ q)) (fun q => by omega))).trans (h.k i h1 h2)⟩
theorem KF.drew {l : List Nat} {u w : World} (h : KF l u w) : KF l u w.drew := ⟨h.b.drew, h.k⟩
theorem KF.blk {l : List Nat} {w w' : World} (h : KF l w w') {b : Nat} {x : List Value} (hb : Blk w b x) (hm : b ∉ l) : Blk w' b x := by
  have e := h.k b hb.l hm
  exact ⟨fun i x hx => (World.cell?_of_block e).trans (hb.c i x hx), fun o => (World.frozen?_of_block e).trans (hb.f o), Nat.lt_of_lt_of_le hb.l h.b.size⟩
theorem KF.tags {l : List Nat} {w w' : World} (h : KF l w w') {a : Option Addr} {b off N : Nat} {S F : Nat → Int} (T : TagsAt w a b off N S F) (hm : 0 < N → b ∉ l) : TagsAt w' a b off N S F :=
  ⟨T.ha, fun hn => Nat.lt_of_lt_of_le (T.hb hn) h.b.size, fun i hi => (World.cell?_of_block (h.k b (T.hb (by omega)) (hm (by omega)))).trans (T.c0 i hi), fun i hi => (World.cell?_of_block (h.k b (T.hb (by omega)) (hm (by omega)))).trans (T.c1 i hi)⟩
theorem KF.fd {l : List Nat} {w w' : World} (h : KF l w w') {f lb cl tb ct N : Nat} {ALL V : Int} {W Z : Nat → Int} {D : Nat → Bool} {S F : Nat → Int} (d : FD w f lb cl tb ct N ALL V W Z D S F) (h1 : f ∉ l) (h2 : lb ∉ l) (h3 : tb ∉ l) : FD w' f lb cl tb ct N ALL V W Z D S F :=
  ⟨h.blk d.b h1, h.blk d.l h2, h.tags d.t (fun _ => h3), d.a1, d.a2, d.a3, d.n1, d.n8⟩
theorem KF.below {l : List Nat} {w w' : World} {m : Nat} (h : KF l w w') (hl : ∀ i, i ∈ l → m ≤ i) (hm : m ≤ w.heap.size) : Below m w w' :=
  ⟨h.b.os, h.b.tape, h.b.output, h.b.size, fun k hk => h.k k (by omega) (fun q => by have := hl k q; omega)⟩
/-- The times are laid anew. -/
theorem FD.setV {w : World} {f lb cl tb ct N g c : Nat} {ALL V V2 : Int} {W Z : Nat → Int} {D : Nat → Bool} {S F S2 F2 : Nat → Int} (h : FD w f lb cl tb ct N ALL V W Z D S F) (T : TagsAt w (some ⟨g, 0, none⟩) g 0 N S2 F2) (h1 : g ≠ f) (h2 : g ≠ lb) :
    FD ((w.setCell ⟨f, 2, none⟩ (.int .i64 V2)).setCell ⟨f, 3, none⟩ (.slice (some ⟨g, 0, none⟩) N c)) f lb cl g c N ALL V2 W Z D S2 F2 :=
  ⟨(h.b.set (i := 2) (by simp) (.int .i64 V2)).set (i := 3) (by simp) _, (h.l.other (by have := h.a1; omega) _).other (by have := h.a1; omega) _, (T.set_other (fun _ => h1) _).set_other (fun _ => h1) _, h.a1, fun e => h1 e.symm, fun e => h2 e.symm, h.n1, h.n8⟩
def up (S : Nat → Int) (k : Nat) (x : Int) : Nat → Int := fun i => if i = k then x else S i
def upb (S : Nat → Bool) (k : Nat) (x : Bool) : Nat → Bool := fun i => if i = k then x else S i
def HearP (f lb cl N : Nat) (ALL V : Int) (W Z : Nat → Int) (D : Nat → Bool) (S F : Nat → Int) (l : List Nat) (w : World) (e : Ending) (w' : World) : Prop :=
  ∃ tb ct, e = .returned (.tuple #[]) ∧ FD w' f lb cl tb ct N ALL V W Z D S F ∧ w.heap.size ≤ tb ∧ KF l w w'
theorem FD.tl {w : World} {f lb cl tb ct N : Nat} {ALL V : Int} {W Z : Nat → Int} {D : Nat → Bool} {S F : Nat → Int} (h : FD w f lb cl tb ct N ALL V W Z D S F) : tb < w.heap.size := h.t.hb (by have := h.n1; omega)
theorem FD.flow {w : World} {f lb cl tb ct N : Nat} {ALL V : Int} {W Z : Nat → Int} {D : Nat → Bool} {S F : Nat → Int} (h : FD w f lb cl tb ct N ALL V W Z D S F) {k : Nat} (hk : k < N) :
    w.cell? ⟨lb, k * 3, none⟩ = some (.int .i64 (W k)) ∧ w.cell? ⟨lb, k * 3 + 1, none⟩ = some (.int .i64 (Z k)) ∧ w.cell? ⟨lb, k * 3 + 2, none⟩ = some (.bool (D k)) :=
  ⟨h.l.c _ _ (rowF_at W Z D N k 0 hk (by omega)), h.l.c _ _ (rowF_at W Z D N k 1 hk (by omega)), h.l.c _ _ (rowF_at W Z D N k 2 hk (by omega))⟩
theorem virX_ok {V c st : Int} {N : Nat} {S F : Nat → Int} {k : Nat} {w : World} {e : Ending} {w' : World} (h : VirX (tagR V N S F (k : Int) c st) w e w') (hok : tagOk V N S F (k : Int) c st) :
    ∃ (g c' : Nat), e = .returned (.tuple #[.agg #[.int .i64 V, .slice (some ⟨g, 0, none⟩) N c'], .int .i64 0]) ∧ TagsAt w' (some ⟨g, 0, none⟩) g 0 N (up S k st) (up F k (st + c)) ∧ w.heap.size ≤ g ∧ Below w.heap.size w w' := by
  unfold tagR at h
  rw [if_pos hok] at h
  obtain ⟨a, g, c', rfl, T, hg, hb⟩ := h
  have hN : 0 < N := by have := hok.2.1; have := hok.2.2.1; omega
  obtain rfl := T.ha hN
  rw [Int.toNat_natCast] at T
  exact ⟨g, c', rfl, T, hg hN, hb⟩
end Fa

set_option maxRecDepth 100000 in
set_option maxHeartbeats 4000000 in
theorem hear1_next {w : World} {f lb cl tb ct N : Nat} {ALL V : Int} {W Z : Nat → Int} {D : Nat → Bool} {S F : Nat → Int} (h : FD w f lb cl tb ct N ALL V W Z D S F) (bf bk bs bx k : Nat) (hk : k < N) (size : Int)
    (hbf : w.cell? ⟨bf, 0, none⟩ = some (.pointer (some ⟨f, 0, none⟩))) (hbk : w.cell? ⟨bk, 0, none⟩ = some (.int .i64 (k : Nat))) (hbs : w.cell? ⟨bs, 0, none⟩ = some (.int .i64 size)) (hbx : w.cell? ⟨bx, 0, none⟩ = some (.pointer (some ⟨lb, k * 3, none⟩)))
    (hok : tagOk V N S F (k : Int) (costI size (W k) ALL) (F k)) :
    Calls Try.prog 57 #[.func (.func 58) #[] #[], .pointer (some ⟨bf, 0, none⟩), .pointer (some ⟨bk, 0, none⟩), .pointer (some ⟨bs, 0, none⟩), .pointer (some ⟨bx, 0, none⟩)] w
      (HearP f lb cl N ALL V W Z D (up S k (F k)) (up F k (F k + costI size (W k) ALL)) [f] w) := by
  have h8 := h.n8
  have hc := Lib.hid (fun (u : World) (hu : Below w.heap.size w u) => vnext_c V (k : Int) size (W k) ALL N (some ⟨tb, 0, none⟩) tb 0 ct S F u (h.t.bel hu) (by omega))
  rw [Int.toNat_natCast] at hc
  obtain ⟨f1, f2, f3⟩ := h.flow hk
  have b1 := h.b.c 1 _ rfl
  have b2 := h.b.c 2 _ rfl
  have b3 := h.b.c 3 _ rfl
  have hfl := h.b.l
  have hll := h.l.l
  replace h := Lib.hid h
  replace hok := Lib.hid hok
  obtain ⟨st, hst⟩ : ∃ st, RowKit.Hid ((F k) = st) := ⟨_, Lib.hid rfl⟩
  rw [hst.out] at hc hok ⊢
  obtain ⟨y, hy⟩ : ∃ y, W k = y := ⟨_, rfl⟩
  rw [hy] at hc hok f1 ⊢
  clear hy
  go_enter Try.func57, Try.ntmps57
  go_upto_region 0 with fail
  refine wp_region_noPanic ?_
  refine Stg.wp_region_L [20] (Vr.SB w) (by kernel_rfl) (fun _ => (Below.refl _ _).drew) (fun hHeld => ?_)
  refine Stg.wpAnyL_start (n' := 22) (l' := #[false, false, false, false, false, false, false, false, false, false, false, false, false, false, false, false, false, false, false, false, false, false]) (by kernel_rfl) (by kernel_rfl) ?_
  refine Stg.wpAnyL_free (i := 0) (v := ?_) 0 rfl (by kernel_rfl) (by kernel_rfl) (by kernel_rfl) (by kernel_rfl) (by kernel_rfl) (fun _ _ _ h => h) (Or.inl ⟨by kernel_rfl, ?_⟩) (by assumption) ?_
  rotate_left
  · intro u _
    try simp only [List.getElem_toArray, List.getElem_cons_succ, List.getElem_cons_zero]
    go_simp
    try with_reducible rfl
  try simp only [Act.put, List.setIfInBounds_toArray, List.set_cons_zero, List.set_cons_succ]
  refine Stg.wpAnyL_take (i := 1) (v := ?_) [2, 3, 4, 15, 16, 17, 18, 20, 21] 0 rfl (by kernel_rfl) (by kernel_rfl) (by kernel_rfl) (by kernel_rfl) (by kernel_rfl) (fun _ _ _ h => h) (Or.inl ⟨by kernel_rfl, ?_⟩) (by assumption) ?_
  rotate_left
  · intro u hSu
    skip
    have sB := hSu rfl
    have y0 := cellB sB hbf
    have y1 := cellB sB hbk
    have y2 := cellB sB hbs
    have y3 := cellB sB hbx
    have y4 := cellB sB f1
    have y5 := cellB sB b1
    have y6 := cellB sB b2
    have y7 := cellB sB b3
    try simp only [List.getElem_toArray, List.getElem_cons_succ, List.getElem_cons_zero]
    go_simp
    try with_reducible rfl
  try simp only [Act.put, List.setIfInBounds_toArray, List.set_cons_zero, List.set_cons_succ]
  refine Stg.wpAnyL_free (i := 2) (v := ?_) 0 rfl (by kernel_rfl) (by kernel_rfl) (by kernel_rfl) (by kernel_rfl) (by kernel_rfl) (fun _ _ _ h => h) (Or.inl ⟨by kernel_rfl, ?_⟩) (by assumption) ?_
  rotate_left
  · intro u _
    try simp only [List.getElem_toArray, List.getElem_cons_succ, List.getElem_cons_zero]
    go_simp
    try with_reducible rfl
  try simp only [Act.put, List.setIfInBounds_toArray, List.set_cons_zero, List.set_cons_succ]
  refine Stg.wpAnyL_start (n' := 19) (l' := #[true, true, true, false, false, false, false, false, false, false, false, false, false, false, false, false, false, false, false, false, false, false]) (by kernel_rfl) (by kernel_rfl) ?_
  refine Stg.wpAnyL_free (i := 3) (v := ?_) 0 rfl (by kernel_rfl) (by kernel_rfl) (by kernel_rfl) (by kernel_rfl) (by kernel_rfl) (fun _ _ _ h => h) (Or.inl ⟨by kernel_rfl, ?_⟩) (by assumption) ?_
  rotate_left
  · intro u _
    try simp only [List.getElem_toArray, List.getElem_cons_succ, List.getElem_cons_zero]
    go_simp
    try with_reducible rfl
  try simp only [Act.put, List.setIfInBounds_toArray, List.set_cons_zero, List.set_cons_succ]
  refine Stg.wpAnyL_take (i := 4) (v := ?_) [15, 16, 17, 18, 20, 21] 0 rfl (by kernel_rfl) (by kernel_rfl) (by kernel_rfl) (by kernel_rfl) (by kernel_rfl) (fun _ _ _ h => h) (Or.inl ⟨by kernel_rfl, ?_⟩) (by assumption) ?_
  rotate_left
  · intro u hSu
    skip
    have sB := hSu rfl
    have y0 := cellB sB hbf
    have y1 := cellB sB hbk
    have y2 := cellB sB hbs
    have y3 := cellB sB hbx
    have y4 := cellB sB f1
    have y5 := cellB sB b1
    have y6 := cellB sB b2
    have y7 := cellB sB b3
    try simp only [List.getElem_toArray, List.getElem_cons_succ, List.getElem_cons_zero]
    go_simp
    try with_reducible rfl
  try simp only [Act.put, List.setIfInBounds_toArray, List.set_cons_zero, List.set_cons_succ]
  refine Stg.wpAnyL_take (i := 5) (v := ?_) [15, 16, 17, 18, 20, 21] 0 rfl (by kernel_rfl) (by kernel_rfl) (by kernel_rfl) (by kernel_rfl) (by kernel_rfl) (fun _ _ _ h => h) (Or.inl ⟨by kernel_rfl, ?_⟩) (by assumption) ?_
  rotate_left
  · intro u hSu
    skip
    have sB := hSu rfl
    have y0 := cellB sB hbf
    have y1 := cellB sB hbk
    have y2 := cellB sB hbs
    have y3 := cellB sB hbx
    have y4 := cellB sB f1
    have y5 := cellB sB b1
    have y6 := cellB sB b2
    have y7 := cellB sB b3
    try simp only [List.getElem_toArray, List.getElem_cons_succ, List.getElem_cons_zero]
    go_simp
    try with_reducible rfl
  try simp only [Act.put, List.setIfInBounds_toArray, List.set_cons_zero, List.set_cons_succ]
  refine Stg.wpAnyL_start (n' := 16) (l' := #[true, true, true, true, true, true, false, false, false, false, false, false, false, false, false, false, false, false, false, false, false, false]) (by kernel_rfl) (by kernel_rfl) ?_
  refine Stg.wpAnyL_take (i := 6) (v := ?_) [15, 16, 17, 18, 20, 21] 0 rfl (by kernel_rfl) (by kernel_rfl) (by kernel_rfl) (by kernel_rfl) (by kernel_rfl) (fun _ _ _ h => h) (Or.inl ⟨by kernel_rfl, ?_⟩) (by assumption) ?_
  rotate_left
  · intro u hSu
    skip
    have sB := hSu rfl
    have y0 := cellB sB hbf
    have y1 := cellB sB hbk
    have y2 := cellB sB hbs
    have y3 := cellB sB hbx
    have y4 := cellB sB f1
    have y5 := cellB sB b1
    have y6 := cellB sB b2
    have y7 := cellB sB b3
    try simp only [List.getElem_toArray, List.getElem_cons_succ, List.getElem_cons_zero]
    go_simp
    try with_reducible rfl
  try simp only [Act.put, List.setIfInBounds_toArray, List.set_cons_zero, List.set_cons_succ]
  refine Stg.wpAnyL_take (i := 7) (v := ?_) [8, 9, 10, 15, 16, 17, 18, 20, 21] 0 rfl (by kernel_rfl) (by kernel_rfl) (by kernel_rfl) (by kernel_rfl) (by kernel_rfl) (fun _ _ _ h => h) (Or.inl ⟨by kernel_rfl, ?_⟩) (by assumption) ?_
  rotate_left
  · intro u hSu
    skip
    have sB := hSu rfl
    have y0 := cellB sB hbf
    have y1 := cellB sB hbk
    have y2 := cellB sB hbs
    have y3 := cellB sB hbx
    have y4 := cellB sB f1
    have y5 := cellB sB b1
    have y6 := cellB sB b2
    have y7 := cellB sB b3
    try simp only [List.getElem_toArray, List.getElem_cons_succ, List.getElem_cons_zero]
    go_simp
    try with_reducible rfl
  try simp only [Act.put, List.setIfInBounds_toArray, List.set_cons_zero, List.set_cons_succ]
  refine Stg.wpAnyL_free (i := 8) (v := ?_) 0 rfl (by kernel_rfl) (by kernel_rfl) (by kernel_rfl) (by kernel_rfl) (by kernel_rfl) (fun _ _ _ h => h) (Or.inl ⟨by kernel_rfl, ?_⟩) (by assumption) ?_
  rotate_left
  · intro u _
    try simp only [List.getElem_toArray, List.getElem_cons_succ, List.getElem_cons_zero]
    go_simp
    try with_reducible rfl
  try simp only [Act.put, List.setIfInBounds_toArray, List.set_cons_zero, List.set_cons_succ]
  refine Stg.wpAnyL_start (n' := 13) (l' := #[true, true, true, true, true, true, true, true, true, false, false, false, false, false, false, false, false, false, false, false, false, false]) (by kernel_rfl) (by kernel_rfl) ?_
  refine Stg.wpAnyL_free (i := 9) (v := ?_) 0 rfl (by kernel_rfl) (by kernel_rfl) (by kernel_rfl) (by kernel_rfl) (by kernel_rfl) (fun _ _ _ h => h) (Or.inl ⟨by kernel_rfl, ?_⟩) (by assumption) ?_
  rotate_left
  · intro u _
    try simp only [List.getElem_toArray, List.getElem_cons_succ, List.getElem_cons_zero]
    go_simp
    try with_reducible rfl
  try simp only [Act.put, List.setIfInBounds_toArray, List.set_cons_zero, List.set_cons_succ]
  refine Stg.wpAnyL_take (i := 10) (v := ?_) [15, 16, 17, 18, 20, 21] 0 rfl (by kernel_rfl) (by kernel_rfl) (by kernel_rfl) (by kernel_rfl) (by kernel_rfl) (fun _ _ _ h => h) (Or.inl ⟨by kernel_rfl, ?_⟩) (by assumption) ?_
  rotate_left
  · intro u hSu
    skip
    have sB := hSu rfl
    have y0 := cellB sB hbf
    have y1 := cellB sB hbk
    have y2 := cellB sB hbs
    have y3 := cellB sB hbx
    have y4 := cellB sB f1
    have y5 := cellB sB b1
    have y6 := cellB sB b2
    have y7 := cellB sB b3
    try simp only [List.getElem_toArray, List.getElem_cons_succ, List.getElem_cons_zero]
    go_simp
    try with_reducible rfl
  try simp only [Act.put, List.setIfInBounds_toArray, List.set_cons_zero, List.set_cons_succ]
  refine Stg.wpAnyL_take (i := 11) (v := ?_) [12, 13, 14, 15, 16, 17, 18, 20, 21] 0 rfl (by kernel_rfl) (by kernel_rfl) (by kernel_rfl) (by kernel_rfl) (by kernel_rfl) (fun _ _ _ h => h) (Or.inl ⟨by kernel_rfl, ?_⟩) (by assumption) ?_
  rotate_left
  · intro u hSu
    skip
    have sB := hSu rfl
    have y0 := cellB sB hbf
    have y1 := cellB sB hbk
    have y2 := cellB sB hbs
    have y3 := cellB sB hbx
    have y4 := cellB sB f1
    have y5 := cellB sB b1
    have y6 := cellB sB b2
    have y7 := cellB sB b3
    try simp only [List.getElem_toArray, List.getElem_cons_succ, List.getElem_cons_zero]
    go_simp
    try with_reducible rfl
  try simp only [Act.put, List.setIfInBounds_toArray, List.set_cons_zero, List.set_cons_succ]
  refine Stg.wpAnyL_start (n' := 10) (l' := #[true, true, true, true, true, true, true, true, true, true, true, true, false, false, false, false, false, false, false, false, false, false]) (by kernel_rfl) (by kernel_rfl) ?_
  refine Stg.wpAnyL_free (i := 12) (v := ?_) 0 rfl (by kernel_rfl) (by kernel_rfl) (by kernel_rfl) (by kernel_rfl) (by kernel_rfl) (fun _ _ _ h => h) (Or.inl ⟨by kernel_rfl, ?_⟩) (by assumption) ?_
  rotate_left
  · intro u _
    try simp only [List.getElem_toArray, List.getElem_cons_succ, List.getElem_cons_zero]
    go_simp
    try with_reducible rfl
  try simp only [Act.put, List.setIfInBounds_toArray, List.set_cons_zero, List.set_cons_succ]
  refine Stg.wpAnyL_free (i := 13) (v := ?_) 0 rfl (by kernel_rfl) (by kernel_rfl) (by kernel_rfl) (by kernel_rfl) (by kernel_rfl) (fun _ _ _ h => h) (Or.inl ⟨by kernel_rfl, ?_⟩) (by assumption) ?_
  rotate_left
  · intro u _
    try simp only [List.getElem_toArray, List.getElem_cons_succ, List.getElem_cons_zero]
    go_simp
    try with_reducible rfl
  try simp only [Act.put, List.setIfInBounds_toArray, List.set_cons_zero, List.set_cons_succ]
  refine Stg.wpAnyL_take (i := 14) (v := ?_) [15, 16, 17, 18, 20, 21] 0 rfl (by kernel_rfl) (by kernel_rfl) (by kernel_rfl) (by kernel_rfl) (by kernel_rfl) (fun _ _ _ h => h) (Or.inl ⟨by kernel_rfl, ?_⟩) (by assumption) ?_
  rotate_left
  · intro u hSu
    skip
    have sB := hSu rfl
    have y0 := cellB sB hbf
    have y1 := cellB sB hbk
    have y2 := cellB sB hbs
    have y3 := cellB sB hbx
    have y4 := cellB sB f1
    have y5 := cellB sB b1
    have y6 := cellB sB b2
    have y7 := cellB sB b3
    try simp only [List.getElem_toArray, List.getElem_cons_succ, List.getElem_cons_zero]
    go_simp
    try with_reducible rfl
  try simp only [Act.put, List.setIfInBounds_toArray, List.set_cons_zero, List.set_cons_succ]
  refine Stg.wpAnyL_start (n' := 7) (l' := #[true, true, true, true, true, true, true, true, true, true, true, true, true, true, true, false, false, false, false, false, false, false]) (by kernel_rfl) (by kernel_rfl) ?_
  refine Stg.wpAnyL_two (i := 15) (k := 19) 0 0 rfl rfl (by kernel_rfl) (by kernel_rfl) (by kernel_rfl) (fun K hK => ?_) (fun K hK => ?_)
  · try simp only [List.getElem_toArray, List.getElem_cons_succ, List.getElem_cons_zero]
    go_simp
    refine (hc.out _ (hHeld rfl)).mono ?_
    rintro e w1 hX
    obtain ⟨g1, c1, rfl, T1, hg1, hb1⟩ := virX_ok hX hok.out
    clear hX
    refine hK.out _ _ ?_ (fun hHeld1 => ?_)
    · exact fun _ => bNext (hHeld rfl) hb1 (Nat.le_refl _)
    clear hK K
    try simp only [Act.put, List.setIfInBounds_toArray, List.set_cons_zero, List.set_cons_succ]
    refine Stg.wpAnyL_free (i := 16) (v := ?_) 0 rfl (by kernel_rfl) (by kernel_rfl) (by kernel_rfl) (by kernel_rfl) (by kernel_rfl) (fun _ _ _ h => h) (Or.inl ⟨by kernel_rfl, ?_⟩) (by assumption) ?_
    rotate_left
    · intro u _
      try simp only [List.getElem_toArray, List.getElem_cons_succ, List.getElem_cons_zero]
      go_simp
      try with_reducible rfl
    try simp only [Act.put, List.setIfInBounds_toArray, List.set_cons_zero, List.set_cons_succ]
    refine Stg.wpAnyL_free (i := 17) (v := ?_) 0 rfl (by kernel_rfl) (by kernel_rfl) (by kernel_rfl) (by kernel_rfl) (by kernel_rfl) (fun _ _ _ h => h) (Or.inl ⟨by kernel_rfl, ?_⟩) (by assumption) ?_
    rotate_left
    · intro u _
      try simp only [List.getElem_toArray, List.getElem_cons_succ, List.getElem_cons_zero]
      go_simp
      try with_reducible rfl
    try simp only [Act.put, List.setIfInBounds_toArray, List.set_cons_zero, List.set_cons_succ]
    refine Stg.wpAnyL_start (n' := 4) (l' := #[true, true, true, true, true, true, true, true, true, true, true, true, true, true, true, true, true, true, false, false, false, false]) (by kernel_rfl) (by kernel_rfl) ?_
    refine Stg.wpAnyL_free (i := 18) (v := ?_) 0 rfl (by kernel_rfl) (by kernel_rfl) (by kernel_rfl) (by kernel_rfl) (by kernel_rfl) (fun _ _ _ h => h) (Or.inl ⟨by kernel_rfl, ?_⟩) (by assumption) ?_
    rotate_left
    · intro u _
      try simp only [List.getElem_toArray, List.getElem_cons_succ, List.getElem_cons_zero]
      go_simp
      try with_reducible rfl
    try simp only [Act.put, List.setIfInBounds_toArray, List.set_cons_zero, List.set_cons_succ]
    refine Stg.wpAnyL_one (i := 19) 0 rfl (by kernel_rfl) (by kernel_rfl) (fun K hK => ?_)
    try simp only [List.getElem_toArray, List.getElem_cons_succ, List.getElem_cons_zero]
    go_simp
    refine hK.out _ _ ?_ (fun hHeld2 => ?_)
    · exact fun _ => bNext (hHeld1 rfl) ((Below.refl _ _).alloc (Nat.le_refl _) _) (Nat.le_refl _)
    clear hK K
    try simp only [Act.put, List.setIfInBounds_toArray, List.set_cons_zero, List.set_cons_succ]
    refine Stg.wpAnyL_one (i := 20) 1 rfl (by kernel_rfl) (by kernel_rfl) (fun K hK => ?_)
    have hU := Lib.hid (bNext (hHeld1 rfl) ((Below.refl w1.heap.size w1).alloc (Nat.le_refl _) (.cells #[.int .i64 V, .slice (some ⟨g1, 0, none⟩) N c1] 96)) (Nat.le_refl _))
    have nb3 := blkN_new w1 [.int .i64 V, .slice (some ⟨g1, 0, none⟩) N c1] 96
    have hgn : g1 < w1.heap.size := T1.hb (by have := h.out.n1; omega)
    have T3 := T1.bel ((Below.refl w1.heap.size w1).alloc (Nat.le_refl _) (.cells #[.int .i64 V, .slice (some ⟨g1, 0, none⟩) N c1] 96))
    have hg2 : w.heap.size ≤ g1 := by simpa using hg1
    try simp only [List.getElem_toArray, List.getElem_cons_succ, List.getElem_cons_zero]
    go_simp
    refine hK.out _ _ ?_ (fun hHeld3 => ?_)
    · exact fun h => absurd h (by decide)
    clear hK K
    try simp only [Act.put, List.setIfInBounds_toArray, List.set_cons_zero, List.set_cons_succ]
    refine Stg.wpAnyL_start (n' := 1) (l' := #[true, true, true, true, true, true, true, true, true, true, true, true, true, true, true, true, true, true, true, true, true, false]) (by kernel_rfl) (by kernel_rfl) ?_
    refine Stg.wpAnyL_free (i := 21) (v := ?_) 1 rfl (by kernel_rfl) (by kernel_rfl) (by kernel_rfl) (by kernel_rfl) (by kernel_rfl) (fun _ _ _ h => h) (Or.inl ⟨by kernel_rfl, ?_⟩) (by assumption) ?_
    rotate_left
    · intro u _
      try simp only [List.getElem_toArray, List.getElem_cons_succ, List.getElem_cons_zero]
      go_simp
      try with_reducible rfl
    try simp only [Act.put, List.setIfInBounds_toArray, List.set_cons_zero, List.set_cons_succ]
    refine Stg.wpAnyL_done (by kernel_rfl) ?_ _
    try simp only [List.getElem_toArray, List.getElem_cons_succ, List.getElem_cons_zero]
    try simp only [Act.put, List.setIfInBounds_toArray, List.set_cons_zero, List.set_cons_succ]
    refine NoPanic.normal ?_
    have hd := h.out.bel hU.out
    have d3 := hd
    have k3 : KF [f] w (w1.alloc (.cells #[.int .i64 V, .slice (some ⟨g1, 0, none⟩) N c1] 96)) := KF.of hU.out
    have bf3 := cellB hU.out hbf
    have bf0 := bf3
    have hu3 : (w1.alloc (.cells [.int .i64 V, .slice (some ⟨g1, 0, none⟩) N c1].toArray 96)) = w1.alloc (.cells #[.int .i64 V, .slice (some ⟨g1, 0, none⟩) N c1] 96) := rfl
    rw [hu3] at nb3
    generalize (w1.alloc (.cells #[.int .i64 V, .slice (some ⟨g1, 0, none⟩) N c1] 96)) = u3 at nb3 d3 T3 k3 bf3 ⊢
    generalize w1.heap.size = nbb at nb3 ⊢
    have z0 := nb3.c 0 _ rfl
    have z1 := nb3.c 1 _ rfl
    have x2 := d3.b.c 2 _ rfl
    have x3 := d3.b.c 3 _ rfl
    have x4 := d3.b.f 2
    have x5 := d3.b.f 3
    have d4 := Lib.hid (d3.setV (V2 := V) (c := c1) T3 (by omega) (by omega))
    have k4 := Lib.hid ((k3.set (p := ⟨f, 2, none⟩) (.inl (by simp)) (.int .i64 V)).set (p := ⟨f, 3, none⟩) (.inl (by simp)) (.slice (some ⟨g1, 0, none⟩) N c1))
    clear d3 T3 k3 nb3 hd hU bf0 T1
    go_wp2_with fail
    refine bodyPost_end (v := .tuple #[]) (by simp [results, Try.results57, go_sem]) rfl ?_
    exact ⟨_, _, rfl, d4.out, hg2, k4.out⟩
  · try simp only [List.getElem_toArray, List.getElem_cons_succ, List.getElem_cons_zero]
    go_simp
    refine hK.out _ _ ?_ (fun hHeld1 => ?_)
    · exact fun _ => bNext (hHeld rfl) ((Below.refl _ _).alloc (Nat.le_refl _) _) (Nat.le_refl _)
    clear hK K
    try simp only [Act.put, List.setIfInBounds_toArray, List.set_cons_zero, List.set_cons_succ]
    refine Stg.wpAnyL_one (i := 15) 0 rfl (by kernel_rfl) (by kernel_rfl) (fun K hK => ?_)
    try simp only [List.getElem_toArray, List.getElem_cons_succ, List.getElem_cons_zero]
    go_simp
    refine (hc.out _ (hHeld1 rfl)).mono ?_
    rintro e w1 hX
    obtain ⟨g1, c1, rfl, T1, hg1, hb2⟩ := virX_ok hX hok.out
    clear hX
    refine hK.out _ _ ?_ (fun hHeld2 => ?_)
    · exact fun _ => bNext (hHeld1 rfl) hb2 (Nat.le_refl _)
    clear hK K
    try simp only [Act.put, List.setIfInBounds_toArray, List.set_cons_zero, List.set_cons_succ]
    refine Stg.wpAnyL_free (i := 16) (v := ?_) 0 rfl (by kernel_rfl) (by kernel_rfl) (by kernel_rfl) (by kernel_rfl) (by kernel_rfl) (fun _ _ _ h => h) (Or.inl ⟨by kernel_rfl, ?_⟩) (by assumption) ?_
    rotate_left
    · intro u _
      try simp only [List.getElem_toArray, List.getElem_cons_succ, List.getElem_cons_zero]
      go_simp
      try with_reducible rfl
    try simp only [Act.put, List.setIfInBounds_toArray, List.set_cons_zero, List.set_cons_succ]
    refine Stg.wpAnyL_start (n' := 4) (l' := #[true, true, true, true, true, true, true, true, true, true, true, true, true, true, true, true, true, false, false, true, false, false]) (by kernel_rfl) (by kernel_rfl) ?_
    refine Stg.wpAnyL_free (i := 17) (v := ?_) 0 rfl (by kernel_rfl) (by kernel_rfl) (by kernel_rfl) (by kernel_rfl) (by kernel_rfl) (fun _ _ _ h => h) (Or.inl ⟨by kernel_rfl, ?_⟩) (by assumption) ?_
    rotate_left
    · intro u _
      try simp only [List.getElem_toArray, List.getElem_cons_succ, List.getElem_cons_zero]
      go_simp
      try with_reducible rfl
    try simp only [Act.put, List.setIfInBounds_toArray, List.set_cons_zero, List.set_cons_succ]
    refine Stg.wpAnyL_free (i := 18) (v := ?_) 0 rfl (by kernel_rfl) (by kernel_rfl) (by kernel_rfl) (by kernel_rfl) (by kernel_rfl) (fun _ _ _ h => h) (Or.inl ⟨by kernel_rfl, ?_⟩) (by assumption) ?_
    rotate_left
    · intro u _
      try simp only [List.getElem_toArray, List.getElem_cons_succ, List.getElem_cons_zero]
      go_simp
      try with_reducible rfl
    try simp only [Act.put, List.setIfInBounds_toArray, List.set_cons_zero, List.set_cons_succ]
    refine Stg.wpAnyL_one (i := 20) 1 rfl (by kernel_rfl) (by kernel_rfl) (fun K hK => ?_)
    have hU := Lib.hid (hHeld2 rfl)
    have nb := (blkN_new w.drew [.int .i64 0, .slice none 0 0] 96).bel hb2
    have hne : g1 ≠ w.drew.heap.size := by have := hg1; simp at this ⊢; omega
    have T2 := T1
    have hg2 : w.heap.size ≤ g1 := by have := hg1; simp at this; omega
    simp only [World.size_drew] at nb hne
    have r0 := nb.f 0
    have r1 := nb.f 1
    have q0 := nb.c 0 _ rfl
    have q1 := nb.c 1 _ rfl
    try simp only [List.getElem_toArray, List.getElem_cons_succ, List.getElem_cons_zero]
    go_simp
    refine hK.out _ _ ?_ (fun hHeld3 => ?_)
    · exact fun h => absurd h (by decide)
    clear hK K
    try simp only [Act.put, List.setIfInBounds_toArray, List.set_cons_zero, List.set_cons_succ]
    refine Stg.wpAnyL_start (n' := 1) (l' := #[true, true, true, true, true, true, true, true, true, true, true, true, true, true, true, true, true, true, true, true, true, false]) (by kernel_rfl) (by kernel_rfl) ?_
    refine Stg.wpAnyL_free (i := 21) (v := ?_) 1 rfl (by kernel_rfl) (by kernel_rfl) (by kernel_rfl) (by kernel_rfl) (by kernel_rfl) (fun _ _ _ h => h) (Or.inl ⟨by kernel_rfl, ?_⟩) (by assumption) ?_
    rotate_left
    · intro u _
      try simp only [List.getElem_toArray, List.getElem_cons_succ, List.getElem_cons_zero]
      go_simp
      try with_reducible rfl
    try simp only [Act.put, List.setIfInBounds_toArray, List.set_cons_zero, List.set_cons_succ]
    refine Stg.wpAnyL_done (by kernel_rfl) ?_ _
    try simp only [List.getElem_toArray, List.getElem_cons_succ, List.getElem_cons_zero]
    try simp only [Act.put, List.setIfInBounds_toArray, List.set_cons_zero, List.set_cons_succ]
    refine NoPanic.normal ?_
    obtain ⟨u1, rfl⟩ : ∃ u : World, u = w1 := ⟨_, rfl⟩
    have hn2 : w.heap.size ≤ w.heap.size := Nat.le_refl _
    obtain ⟨nbb, hnb⟩ : ∃ n, w.heap.size = n := ⟨_, rfl⟩
    rw [hnb] at hne nb r0 r1 q0 q1 ⊢
    replace hn2 : w.heap.size ≤ nbb := Nat.le_of_eq hnb
    have nb3 := (nb.set (i := 0) (by simp) (.int .i64 V)).set (i := 1) (by simp) (.slice (some ⟨g1, 0, none⟩) N c1)
    have hd := h.out.bel hU.out
    have d3 : FD ((u1.setCell ⟨nbb, 0, none⟩ (.int .i64 V)).setCell ⟨nbb, 1, none⟩ (.slice (some ⟨g1, 0, none⟩) N c1)) f lb cl tb ct N ALL V W Z D S F :=
      ⟨(hd.b.other (by omega) _).other (by omega) _, (hd.l.other (by omega) _).other (by omega) _, (hd.t.set_other (fun _ => by have := h.out.tl; omega) _).set_other (fun _ => by have := h.out.tl; omega) _, hd.a1, hd.a2, hd.a3, hd.n1, hd.n8⟩
    have T3 := (T2.set_other (q := nbb) (o := 0) (fun _ => hne) (.int .i64 V)).set_other (q := nbb) (o := 1) (fun _ => hne) (.slice (some ⟨g1, 0, none⟩) N c1)
    have k3 : KF [f] w ((u1.setCell ⟨nbb, 0, none⟩ (.int .i64 V)).setCell ⟨nbb, 1, none⟩ (.slice (some ⟨g1, 0, none⟩) N c1)) := ((KF.of hU.out).set (p := ⟨nbb, 0, none⟩) (.inr hn2) _).set (p := ⟨nbb, 1, none⟩) (.inr hn2) _
    have bf3 := cellB ((hU.out.setCell (p := ⟨nbb, 0, none⟩) hn2 (.int .i64 V)).setCell (p := ⟨nbb, 1, none⟩) hn2 (.slice (some ⟨g1, 0, none⟩) N c1)) hbf
    generalize ((u1.setCell ⟨nbb, 0, none⟩ (.int .i64 V)).setCell ⟨nbb, 1, none⟩ (.slice (some ⟨g1, 0, none⟩) N c1)) = u3 at nb3 d3 T3 k3 bf3 ⊢
    have z0 := nb3.c 0 _ rfl
    have z1 := nb3.c 1 _ rfl
    have x2 := d3.b.c 2 _ rfl
    have x3 := d3.b.c 3 _ rfl
    have x4 := d3.b.f 2
    have x5 := d3.b.f 3
    have d4 := Lib.hid (d3.setV (V2 := V) (c := c1) T3 (by omega) (by omega))
    have k4 := Lib.hid ((k3.set (p := ⟨f, 2, none⟩) (.inl (by simp)) (.int .i64 V)).set (p := ⟨f, 3, none⟩) (.inl (by simp)) (.slice (some ⟨g1, 0, none⟩) N c1))
    clear d3 T3 k3 nb3 hd hU T2 nb r0 r1 q0 q1 T1
    go_wp2_with fail
    refine bodyPost_end (v := .tuple #[]) (by simp [results, Try.results57, go_sem]) rfl ?_
    exact ⟨_, _, rfl, d4.out, hg2, k4.out⟩
set_option maxRecDepth 100000 in
set_option maxHeartbeats 4000000 in
theorem hear1_wake {w : World} {f lb cl tb ct N : Nat} {ALL V : Int} {W Z : Nat → Int} {D : Nat → Bool} {S F : Nat → Int} (h : FD w f lb cl tb ct N ALL V W Z D S F) (bf bk bs bx k : Nat) (hk : k < N) (size : Int)
    (hbf : w.cell? ⟨bf, 0, none⟩ = some (.pointer (some ⟨f, 0, none⟩))) (hbk : w.cell? ⟨bk, 0, none⟩ = some (.int .i64 (k : Nat))) (hbs : w.cell? ⟨bs, 0, none⟩ = some (.int .i64 size)) (hbx : w.cell? ⟨bx, 0, none⟩ = some (.pointer (some ⟨lb, k * 3, none⟩)))
    (hok : tagOk V N S F (k : Int) (costI size (W k) ALL) (max (F k) V)) :
    Calls Try.prog 57 #[.func (.func 59) #[] #[], .pointer (some ⟨bf, 0, none⟩), .pointer (some ⟨bk, 0, none⟩), .pointer (some ⟨bs, 0, none⟩), .pointer (some ⟨bx, 0, none⟩)] w
      (HearP f lb cl N ALL V W Z D (up S k (max (F k) V)) (up F k (max (F k) V + costI size (W k) ALL)) [f] w) := by
  have h8 := h.n8
  have hc := Lib.hid (fun (u : World) (hu : Below w.heap.size w u) => vwake_c V (k : Int) size (W k) ALL N (some ⟨tb, 0, none⟩) tb 0 ct S F u (h.t.bel hu) (by omega))
  rw [Int.toNat_natCast] at hc
  obtain ⟨f1, f2, f3⟩ := h.flow hk
  have b1 := h.b.c 1 _ rfl
  have b2 := h.b.c 2 _ rfl
  have b3 := h.b.c 3 _ rfl
  have hfl := h.b.l
  have hll := h.l.l
  replace h := Lib.hid h
  replace hok := Lib.hid hok
  obtain ⟨st, hst⟩ : ∃ st, RowKit.Hid ((max (F k) V) = st) := ⟨_, Lib.hid rfl⟩
  rw [hst.out] at hc hok ⊢
  obtain ⟨y, hy⟩ : ∃ y, W k = y := ⟨_, rfl⟩
  rw [hy] at hc hok f1 ⊢
  clear hy
  go_enter Try.func57, Try.ntmps57
  go_upto_region 0 with fail
  refine wp_region_noPanic ?_
  refine Stg.wp_region_L [20] (Vr.SB w) (by kernel_rfl) (fun _ => (Below.refl _ _).drew) (fun hHeld => ?_)
  refine Stg.wpAnyL_start (n' := 22) (l' := #[false, false, false, false, false, false, false, false, false, false, false, false, false, false, false, false, false, false, false, false, false, false]) (by kernel_rfl) (by kernel_rfl) ?_
  refine Stg.wpAnyL_free (i := 0) (v := ?_) 0 rfl (by kernel_rfl) (by kernel_rfl) (by kernel_rfl) (by kernel_rfl) (by kernel_rfl) (fun _ _ _ h => h) (Or.inl ⟨by kernel_rfl, ?_⟩) (by assumption) ?_
  rotate_left
  · intro u _
    try simp only [List.getElem_toArray, List.getElem_cons_succ, List.getElem_cons_zero]
    go_simp
    try with_reducible rfl
  try simp only [Act.put, List.setIfInBounds_toArray, List.set_cons_zero, List.set_cons_succ]
  refine Stg.wpAnyL_take (i := 1) (v := ?_) [2, 3, 4, 15, 16, 17, 18, 20, 21] 0 rfl (by kernel_rfl) (by kernel_rfl) (by kernel_rfl) (by kernel_rfl) (by kernel_rfl) (fun _ _ _ h => h) (Or.inl ⟨by kernel_rfl, ?_⟩) (by assumption) ?_
  rotate_left
  · intro u hSu
    skip
    have sB := hSu rfl
    have y0 := cellB sB hbf
    have y1 := cellB sB hbk
    have y2 := cellB sB hbs
    have y3 := cellB sB hbx
    have y4 := cellB sB f1
    have y5 := cellB sB b1
    have y6 := cellB sB b2
    have y7 := cellB sB b3
    try simp only [List.getElem_toArray, List.getElem_cons_succ, List.getElem_cons_zero]
    go_simp
    try with_reducible rfl
  try simp only [Act.put, List.setIfInBounds_toArray, List.set_cons_zero, List.set_cons_succ]
  refine Stg.wpAnyL_free (i := 2) (v := ?_) 0 rfl (by kernel_rfl) (by kernel_rfl) (by kernel_rfl) (by kernel_rfl) (by kernel_rfl) (fun _ _ _ h => h) (Or.inl ⟨by kernel_rfl, ?_⟩) (by assumption) ?_
  rotate_left
  · intro u _
    try simp only [List.getElem_toArray, List.getElem_cons_succ, List.getElem_cons_zero]
    go_simp
    try with_reducible rfl
  try simp only [Act.put, List.setIfInBounds_toArray, List.set_cons_zero, List.set_cons_succ]
  refine Stg.wpAnyL_start (n' := 19) (l' := #[true, true, true, false, false, false, false, false, false, false, false, false, false, false, false, false, false, false, false, false, false, false]) (by kernel_rfl) (by kernel_rfl) ?_
  refine Stg.wpAnyL_free (i := 3) (v := ?_) 0 rfl (by kernel_rfl) (by kernel_rfl) (by kernel_rfl) (by kernel_rfl) (by kernel_rfl) (fun _ _ _ h => h) (Or.inl ⟨by kernel_rfl, ?_⟩) (by assumption) ?_
  rotate_left
  · intro u _
    try simp only [List.getElem_toArray, List.getElem_cons_succ, List.getElem_cons_zero]
    go_simp
    try with_reducible rfl
  try simp only [Act.put, List.setIfInBounds_toArray, List.set_cons_zero, List.set_cons_succ]
  refine Stg.wpAnyL_take (i := 4) (v := ?_) [15, 16, 17, 18, 20, 21] 0 rfl (by kernel_rfl) (by kernel_rfl) (by kernel_rfl) (by kernel_rfl) (by kernel_rfl) (fun _ _ _ h => h) (Or.inl ⟨by kernel_rfl, ?_⟩) (by assumption) ?_
  rotate_left
  · intro u hSu
    skip
    have sB := hSu rfl
    have y0 := cellB sB hbf
    have y1 := cellB sB hbk
    have y2 := cellB sB hbs
    have y3 := cellB sB hbx
    have y4 := cellB sB f1
    have y5 := cellB sB b1
    have y6 := cellB sB b2
    have y7 := cellB sB b3
    try simp only [List.getElem_toArray, List.getElem_cons_succ, List.getElem_cons_zero]
    go_simp
    try with_reducible rfl
  try simp only [Act.put, List.setIfInBounds_toArray, List.set_cons_zero, List.set_cons_succ]
  refine Stg.wpAnyL_take (i := 5) (v := ?_) [15, 16, 17, 18, 20, 21] 0 rfl (by kernel_rfl) (by kernel_rfl) (by kernel_rfl) (by kernel_rfl) (by kernel_rfl) (fun _ _ _ h => h) (Or.inl ⟨by kernel_rfl, ?_⟩) (by assumption) ?_
  rotate_left
  · intro u hSu
    skip
    have sB := hSu rfl
    have y0 := cellB sB hbf
    have y1 := cellB sB hbk
    have y2 := cellB sB hbs
    have y3 := cellB sB hbx
    have y4 := cellB sB f1
    have y5 := cellB sB b1
    have y6 := cellB sB b2
    have y7 := cellB sB b3
    try simp only [List.getElem_toArray, List.getElem_cons_succ, List.getElem_cons_zero]
    go_simp
    try with_reducible rfl
  try simp only [Act.put, List.setIfInBounds_toArray, List.set_cons_zero, List.set_cons_succ]
  refine Stg.wpAnyL_start (n' := 16) (l' := #[true, true, true, true, true, true, false, false, false, false, false, false, false, false, false, false, false, false, false, false, false, false]) (by kernel_rfl) (by kernel_rfl) ?_
  refine Stg.wpAnyL_take (i := 6) (v := ?_) [15, 16, 17, 18, 20, 21] 0 rfl (by kernel_rfl) (by kernel_rfl) (by kernel_rfl) (by kernel_rfl) (by kernel_rfl) (fun _ _ _ h => h) (Or.inl ⟨by kernel_rfl, ?_⟩) (by assumption) ?_
  rotate_left
  · intro u hSu
    skip
    have sB := hSu rfl
    have y0 := cellB sB hbf
    have y1 := cellB sB hbk
    have y2 := cellB sB hbs
    have y3 := cellB sB hbx
    have y4 := cellB sB f1
    have y5 := cellB sB b1
    have y6 := cellB sB b2
    have y7 := cellB sB b3
    try simp only [List.getElem_toArray, List.getElem_cons_succ, List.getElem_cons_zero]
    go_simp
    try with_reducible rfl
  try simp only [Act.put, List.setIfInBounds_toArray, List.set_cons_zero, List.set_cons_succ]
  refine Stg.wpAnyL_take (i := 7) (v := ?_) [8, 9, 10, 15, 16, 17, 18, 20, 21] 0 rfl (by kernel_rfl) (by kernel_rfl) (by kernel_rfl) (by kernel_rfl) (by kernel_rfl) (fun _ _ _ h => h) (Or.inl ⟨by kernel_rfl, ?_⟩) (by assumption) ?_
  rotate_left
  · intro u hSu
    skip
    have sB := hSu rfl
    have y0 := cellB sB hbf
    have y1 := cellB sB hbk
    have y2 := cellB sB hbs
    have y3 := cellB sB hbx
    have y4 := cellB sB f1
    have y5 := cellB sB b1
    have y6 := cellB sB b2
    have y7 := cellB sB b3
    try simp only [List.getElem_toArray, List.getElem_cons_succ, List.getElem_cons_zero]
    go_simp
    try with_reducible rfl
  try simp only [Act.put, List.setIfInBounds_toArray, List.set_cons_zero, List.set_cons_succ]
  refine Stg.wpAnyL_free (i := 8) (v := ?_) 0 rfl (by kernel_rfl) (by kernel_rfl) (by kernel_rfl) (by kernel_rfl) (by kernel_rfl) (fun _ _ _ h => h) (Or.inl ⟨by kernel_rfl, ?_⟩) (by assumption) ?_
  rotate_left
  · intro u _
    try simp only [List.getElem_toArray, List.getElem_cons_succ, List.getElem_cons_zero]
    go_simp
    try with_reducible rfl
  try simp only [Act.put, List.setIfInBounds_toArray, List.set_cons_zero, List.set_cons_succ]
  refine Stg.wpAnyL_start (n' := 13) (l' := #[true, true, true, true, true, true, true, true, true, false, false, false, false, false, false, false, false, false, false, false, false, false]) (by kernel_rfl) (by kernel_rfl) ?_
  refine Stg.wpAnyL_free (i := 9) (v := ?_) 0 rfl (by kernel_rfl) (by kernel_rfl) (by kernel_rfl) (by kernel_rfl) (by kernel_rfl) (fun _ _ _ h => h) (Or.inl ⟨by kernel_rfl, ?_⟩) (by assumption) ?_
  rotate_left
  · intro u _
    try simp only [List.getElem_toArray, List.getElem_cons_succ, List.getElem_cons_zero]
    go_simp
    try with_reducible rfl
  try simp only [Act.put, List.setIfInBounds_toArray, List.set_cons_zero, List.set_cons_succ]
  refine Stg.wpAnyL_take (i := 10) (v := ?_) [15, 16, 17, 18, 20, 21] 0 rfl (by kernel_rfl) (by kernel_rfl) (by kernel_rfl) (by kernel_rfl) (by kernel_rfl) (fun _ _ _ h => h) (Or.inl ⟨by kernel_rfl, ?_⟩) (by assumption) ?_
  rotate_left
  · intro u hSu
    skip
    have sB := hSu rfl
    have y0 := cellB sB hbf
    have y1 := cellB sB hbk
    have y2 := cellB sB hbs
    have y3 := cellB sB hbx
    have y4 := cellB sB f1
    have y5 := cellB sB b1
    have y6 := cellB sB b2
    have y7 := cellB sB b3
    try simp only [List.getElem_toArray, List.getElem_cons_succ, List.getElem_cons_zero]
    go_simp
    try with_reducible rfl
  try simp only [Act.put, List.setIfInBounds_toArray, List.set_cons_zero, List.set_cons_succ]
  refine Stg.wpAnyL_take (i := 11) (v := ?_) [12, 13, 14, 15, 16, 17, 18, 20, 21] 0 rfl (by kernel_rfl) (by kernel_rfl) (by kernel_rfl) (by kernel_rfl) (by kernel_rfl) (fun _ _ _ h => h) (Or.inl ⟨by kernel_rfl, ?_⟩) (by assumption) ?_
  rotate_left
  · intro u hSu
    skip
    have sB := hSu rfl
    have y0 := cellB sB hbf
    have y1 := cellB sB hbk
    have y2 := cellB sB hbs
    have y3 := cellB sB hbx
    have y4 := cellB sB f1
    have y5 := cellB sB b1
    have y6 := cellB sB b2
    have y7 := cellB sB b3
    try simp only [List.getElem_toArray, List.getElem_cons_succ, List.getElem_cons_zero]
    go_simp
    try with_reducible rfl
  try simp only [Act.put, List.setIfInBounds_toArray, List.set_cons_zero, List.set_cons_succ]
  refine Stg.wpAnyL_start (n' := 10) (l' := #[true, true, true, true, true, true, true, true, true, true, true, true, false, false, false, false, false, false, false, false, false, false]) (by kernel_rfl) (by kernel_rfl) ?_
  refine Stg.wpAnyL_free (i := 12) (v := ?_) 0 rfl (by kernel_rfl) (by kernel_rfl) (by kernel_rfl) (by kernel_rfl) (by kernel_rfl) (fun _ _ _ h => h) (Or.inl ⟨by kernel_rfl, ?_⟩) (by assumption) ?_
  rotate_left
  · intro u _
    try simp only [List.getElem_toArray, List.getElem_cons_succ, List.getElem_cons_zero]
    go_simp
    try with_reducible rfl
  try simp only [Act.put, List.setIfInBounds_toArray, List.set_cons_zero, List.set_cons_succ]
  refine Stg.wpAnyL_free (i := 13) (v := ?_) 0 rfl (by kernel_rfl) (by kernel_rfl) (by kernel_rfl) (by kernel_rfl) (by kernel_rfl) (fun _ _ _ h => h) (Or.inl ⟨by kernel_rfl, ?_⟩) (by assumption) ?_
  rotate_left
  · intro u _
    try simp only [List.getElem_toArray, List.getElem_cons_succ, List.getElem_cons_zero]
    go_simp
    try with_reducible rfl
  try simp only [Act.put, List.setIfInBounds_toArray, List.set_cons_zero, List.set_cons_succ]
  refine Stg.wpAnyL_take (i := 14) (v := ?_) [15, 16, 17, 18, 20, 21] 0 rfl (by kernel_rfl) (by kernel_rfl) (by kernel_rfl) (by kernel_rfl) (by kernel_rfl) (fun _ _ _ h => h) (Or.inl ⟨by kernel_rfl, ?_⟩) (by assumption) ?_
  rotate_left
  · intro u hSu
    skip
    have sB := hSu rfl
    have y0 := cellB sB hbf
    have y1 := cellB sB hbk
    have y2 := cellB sB hbs
    have y3 := cellB sB hbx
    have y4 := cellB sB f1
    have y5 := cellB sB b1
    have y6 := cellB sB b2
    have y7 := cellB sB b3
    try simp only [List.getElem_toArray, List.getElem_cons_succ, List.getElem_cons_zero]
    go_simp
    try with_reducible rfl
  try simp only [Act.put, List.setIfInBounds_toArray, List.set_cons_zero, List.set_cons_succ]
  refine Stg.wpAnyL_start (n' := 7) (l' := #[true, true, true, true, true, true, true, true, true, true, true, true, true, true, true, false, false, false, false, false, false, false]) (by kernel_rfl) (by kernel_rfl) ?_
  refine Stg.wpAnyL_two (i := 15) (k := 19) 0 0 rfl rfl (by kernel_rfl) (by kernel_rfl) (by kernel_rfl) (fun K hK => ?_) (fun K hK => ?_)
  · try simp only [List.getElem_toArray, List.getElem_cons_succ, List.getElem_cons_zero]
    go_simp
    refine (hc.out _ (hHeld rfl)).mono ?_
    rintro e w1 hX
    obtain ⟨g1, c1, rfl, T1, hg1, hb1⟩ := virX_ok hX hok.out
    clear hX
    refine hK.out _ _ ?_ (fun hHeld1 => ?_)
    · exact fun _ => bNext (hHeld rfl) hb1 (Nat.le_refl _)
    clear hK K
    try simp only [Act.put, List.setIfInBounds_toArray, List.set_cons_zero, List.set_cons_succ]
    refine Stg.wpAnyL_free (i := 16) (v := ?_) 0 rfl (by kernel_rfl) (by kernel_rfl) (by kernel_rfl) (by kernel_rfl) (by kernel_rfl) (fun _ _ _ h => h) (Or.inl ⟨by kernel_rfl, ?_⟩) (by assumption) ?_
    rotate_left
    · intro u _
      try simp only [List.getElem_toArray, List.getElem_cons_succ, List.getElem_cons_zero]
      go_simp
      try with_reducible rfl
    try simp only [Act.put, List.setIfInBounds_toArray, List.set_cons_zero, List.set_cons_succ]
    refine Stg.wpAnyL_free (i := 17) (v := ?_) 0 rfl (by kernel_rfl) (by kernel_rfl) (by kernel_rfl) (by kernel_rfl) (by kernel_rfl) (fun _ _ _ h => h) (Or.inl ⟨by kernel_rfl, ?_⟩) (by assumption) ?_
    rotate_left
    · intro u _
      try simp only [List.getElem_toArray, List.getElem_cons_succ, List.getElem_cons_zero]
      go_simp
      try with_reducible rfl
    try simp only [Act.put, List.setIfInBounds_toArray, List.set_cons_zero, List.set_cons_succ]
    refine Stg.wpAnyL_start (n' := 4) (l' := #[true, true, true, true, true, true, true, true, true, true, true, true, true, true, true, true, true, true, false, false, false, false]) (by kernel_rfl) (by kernel_rfl) ?_
    refine Stg.wpAnyL_free (i := 18) (v := ?_) 0 rfl (by kernel_rfl) (by kernel_rfl) (by kernel_rfl) (by kernel_rfl) (by kernel_rfl) (fun _ _ _ h => h) (Or.inl ⟨by kernel_rfl, ?_⟩) (by assumption) ?_
    rotate_left
    · intro u _
      try simp only [List.getElem_toArray, List.getElem_cons_succ, List.getElem_cons_zero]
      go_simp
      try with_reducible rfl
    try simp only [Act.put, List.setIfInBounds_toArray, List.set_cons_zero, List.set_cons_succ]
    refine Stg.wpAnyL_one (i := 19) 0 rfl (by kernel_rfl) (by kernel_rfl) (fun K hK => ?_)
    try simp only [List.getElem_toArray, List.getElem_cons_succ, List.getElem_cons_zero]
    go_simp
    refine hK.out _ _ ?_ (fun hHeld2 => ?_)
    · exact fun _ => bNext (hHeld1 rfl) ((Below.refl _ _).alloc (Nat.le_refl _) _) (Nat.le_refl _)
    clear hK K
    try simp only [Act.put, List.setIfInBounds_toArray, List.set_cons_zero, List.set_cons_succ]
    refine Stg.wpAnyL_one (i := 20) 1 rfl (by kernel_rfl) (by kernel_rfl) (fun K hK => ?_)
    have hU := Lib.hid (bNext (hHeld1 rfl) ((Below.refl w1.heap.size w1).alloc (Nat.le_refl _) (.cells #[.int .i64 V, .slice (some ⟨g1, 0, none⟩) N c1] 96)) (Nat.le_refl _))
    have nb3 := blkN_new w1 [.int .i64 V, .slice (some ⟨g1, 0, none⟩) N c1] 96
    have hgn : g1 < w1.heap.size := T1.hb (by have := h.out.n1; omega)
    have T3 := T1.bel ((Below.refl w1.heap.size w1).alloc (Nat.le_refl _) (.cells #[.int .i64 V, .slice (some ⟨g1, 0, none⟩) N c1] 96))
    have hg2 : w.heap.size ≤ g1 := by simpa using hg1
    try simp only [List.getElem_toArray, List.getElem_cons_succ, List.getElem_cons_zero]
    go_simp
    refine hK.out _ _ ?_ (fun hHeld3 => ?_)
    · exact fun h => absurd h (by decide)
    clear hK K
    try simp only [Act.put, List.setIfInBounds_toArray, List.set_cons_zero, List.set_cons_succ]
    refine Stg.wpAnyL_start (n' := 1) (l' := #[true, true, true, true, true, true, true, true, true, true, true, true, true, true, true, true, true, true, true, true, true, false]) (by kernel_rfl) (by kernel_rfl) ?_
    refine Stg.wpAnyL_free (i := 21) (v := ?_) 1 rfl (by kernel_rfl) (by kernel_rfl) (by kernel_rfl) (by kernel_rfl) (by kernel_rfl) (fun _ _ _ h => h) (Or.inl ⟨by kernel_rfl, ?_⟩) (by assumption) ?_
    rotate_left
    · intro u _
      try simp only [List.getElem_toArray, List.getElem_cons_succ, List.getElem_cons_zero]
      go_simp
      try with_reducible rfl
    try simp only [Act.put, List.setIfInBounds_toArray, List.set_cons_zero, List.set_cons_succ]
    refine Stg.wpAnyL_done (by kernel_rfl) ?_ _
    try simp only [List.getElem_toArray, List.getElem_cons_succ, List.getElem_cons_zero]
    try simp only [Act.put, List.setIfInBounds_toArray, List.set_cons_zero, List.set_cons_succ]
    refine NoPanic.normal ?_
    have hd := h.out.bel hU.out
    have d3 := hd
    have k3 : KF [f] w (w1.alloc (.cells #[.int .i64 V, .slice (some ⟨g1, 0, none⟩) N c1] 96)) := KF.of hU.out
    have bf3 := cellB hU.out hbf
    have bf0 := bf3
    have hu3 : (w1.alloc (.cells [.int .i64 V, .slice (some ⟨g1, 0, none⟩) N c1].toArray 96)) = w1.alloc (.cells #[.int .i64 V, .slice (some ⟨g1, 0, none⟩) N c1] 96) := rfl
    rw [hu3] at nb3
    generalize (w1.alloc (.cells #[.int .i64 V, .slice (some ⟨g1, 0, none⟩) N c1] 96)) = u3 at nb3 d3 T3 k3 bf3 ⊢
    generalize w1.heap.size = nbb at nb3 ⊢
    have z0 := nb3.c 0 _ rfl
    have z1 := nb3.c 1 _ rfl
    have x2 := d3.b.c 2 _ rfl
    have x3 := d3.b.c 3 _ rfl
    have x4 := d3.b.f 2
    have x5 := d3.b.f 3
    have d4 := Lib.hid (d3.setV (V2 := V) (c := c1) T3 (by omega) (by omega))
    have k4 := Lib.hid ((k3.set (p := ⟨f, 2, none⟩) (.inl (by simp)) (.int .i64 V)).set (p := ⟨f, 3, none⟩) (.inl (by simp)) (.slice (some ⟨g1, 0, none⟩) N c1))
    clear d3 T3 k3 nb3 hd hU bf0 T1
    go_wp2_with fail
    refine bodyPost_end (v := .tuple #[]) (by simp [results, Try.results57, go_sem]) rfl ?_
    exact ⟨_, _, rfl, d4.out, hg2, k4.out⟩
  · try simp only [List.getElem_toArray, List.getElem_cons_succ, List.getElem_cons_zero]
    go_simp
    refine hK.out _ _ ?_ (fun hHeld1 => ?_)
    · exact fun _ => bNext (hHeld rfl) ((Below.refl _ _).alloc (Nat.le_refl _) _) (Nat.le_refl _)
    clear hK K
    try simp only [Act.put, List.setIfInBounds_toArray, List.set_cons_zero, List.set_cons_succ]
    refine Stg.wpAnyL_one (i := 15) 0 rfl (by kernel_rfl) (by kernel_rfl) (fun K hK => ?_)
    try simp only [List.getElem_toArray, List.getElem_cons_succ, List.getElem_cons_zero]
    go_simp
    refine (hc.out _ (hHeld1 rfl)).mono ?_
    rintro e w1 hX
    obtain ⟨g1, c1, rfl, T1, hg1, hb2⟩ := virX_ok hX hok.out
    clear hX
    refine hK.out _ _ ?_ (fun hHeld2 => ?_)
    · exact fun _ => bNext (hHeld1 rfl) hb2 (Nat.le_refl _)
    clear hK K
    try simp only [Act.put, List.setIfInBounds_toArray, List.set_cons_zero, List.set_cons_succ]
    refine Stg.wpAnyL_free (i := 16) (v := ?_) 0 rfl (by kernel_rfl) (by kernel_rfl) (by kernel_rfl) (by kernel_rfl) (by kernel_rfl) (fun _ _ _ h => h) (Or.inl ⟨by kernel_rfl, ?_⟩) (by assumption) ?_
    rotate_left
    · intro u _
      try simp only [List.getElem_toArray, List.getElem_cons_succ, List.getElem_cons_zero]
      go_simp
      try with_reducible rfl
    try simp only [Act.put, List.setIfInBounds_toArray, List.set_cons_zero, List.set_cons_succ]
    refine Stg.wpAnyL_start (n' := 4) (l' := #[true, true, true, true, true, true, true, true, true, true, true, true, true, true, true, true, true, false, false, true, false, false]) (by kernel_rfl) (by kernel_rfl) ?_
    refine Stg.wpAnyL_free (i := 17) (v := ?_) 0 rfl (by kernel_rfl) (by kernel_rfl) (by kernel_rfl) (by kernel_rfl) (by kernel_rfl) (fun _ _ _ h => h) (Or.inl ⟨by kernel_rfl, ?_⟩) (by assumption) ?_
    rotate_left
    · intro u _
      try simp only [List.getElem_toArray, List.getElem_cons_succ, List.getElem_cons_zero]
      go_simp
      try with_reducible rfl
    try simp only [Act.put, List.setIfInBounds_toArray, List.set_cons_zero, List.set_cons_succ]
    refine Stg.wpAnyL_free (i := 18) (v := ?_) 0 rfl (by kernel_rfl) (by kernel_rfl) (by kernel_rfl) (by kernel_rfl) (by kernel_rfl) (fun _ _ _ h => h) (Or.inl ⟨by kernel_rfl, ?_⟩) (by assumption) ?_
    rotate_left
    · intro u _
      try simp only [List.getElem_toArray, List.getElem_cons_succ, List.getElem_cons_zero]
      go_simp
      try with_reducible rfl
    try simp only [Act.put, List.setIfInBounds_toArray, List.set_cons_zero, List.set_cons_succ]
    refine Stg.wpAnyL_one (i := 20) 1 rfl (by kernel_rfl) (by kernel_rfl) (fun K hK => ?_)
    have hU := Lib.hid (hHeld2 rfl)
    have nb := (blkN_new w.drew [.int .i64 0, .slice none 0 0] 96).bel hb2
    have hne : g1 ≠ w.drew.heap.size := by have := hg1; simp at this ⊢; omega
    have T2 := T1
    have hg2 : w.heap.size ≤ g1 := by have := hg1; simp at this; omega
    simp only [World.size_drew] at nb hne
    have r0 := nb.f 0
    have r1 := nb.f 1
    have q0 := nb.c 0 _ rfl
    have q1 := nb.c 1 _ rfl
    try simp only [List.getElem_toArray, List.getElem_cons_succ, List.getElem_cons_zero]
    go_simp
    refine hK.out _ _ ?_ (fun hHeld3 => ?_)
    · exact fun h => absurd h (by decide)
    clear hK K
    try simp only [Act.put, List.setIfInBounds_toArray, List.set_cons_zero, List.set_cons_succ]
    refine Stg.wpAnyL_start (n' := 1) (l' := #[true, true, true, true, true, true, true, true, true, true, true, true, true, true, true, true, true, true, true, true, true, false]) (by kernel_rfl) (by kernel_rfl) ?_
    refine Stg.wpAnyL_free (i := 21) (v := ?_) 1 rfl (by kernel_rfl) (by kernel_rfl) (by kernel_rfl) (by kernel_rfl) (by kernel_rfl) (fun _ _ _ h => h) (Or.inl ⟨by kernel_rfl, ?_⟩) (by assumption) ?_
    rotate_left
    · intro u _
      try simp only [List.getElem_toArray, List.getElem_cons_succ, List.getElem_cons_zero]
      go_simp
      try with_reducible rfl
    try simp only [Act.put, List.setIfInBounds_toArray, List.set_cons_zero, List.set_cons_succ]
    refine Stg.wpAnyL_done (by kernel_rfl) ?_ _
    try simp only [List.getElem_toArray, List.getElem_cons_succ, List.getElem_cons_zero]
    try simp only [Act.put, List.setIfInBounds_toArray, List.set_cons_zero, List.set_cons_succ]
    refine NoPanic.normal ?_
    obtain ⟨u1, rfl⟩ : ∃ u : World, u = w1 := ⟨_, rfl⟩
    have hn2 : w.heap.size ≤ w.heap.size := Nat.le_refl _
    obtain ⟨nbb, hnb⟩ : ∃ n, w.heap.size = n := ⟨_, rfl⟩
    rw [hnb] at hne nb r0 r1 q0 q1 ⊢
    replace hn2 : w.heap.size ≤ nbb := Nat.le_of_eq hnb
    have nb3 := (nb.set (i := 0) (by simp) (.int .i64 V)).set (i := 1) (by simp) (.slice (some ⟨g1, 0, none⟩) N c1)
    have hd := h.out.bel hU.out
    have d3 : FD ((u1.setCell ⟨nbb, 0, none⟩ (.int .i64 V)).setCell ⟨nbb, 1, none⟩ (.slice (some ⟨g1, 0, none⟩) N c1)) f lb cl tb ct N ALL V W Z D S F :=
      ⟨(hd.b.other (by omega) _).other (by omega) _, (hd.l.other (by omega) _).other (by omega) _, (hd.t.set_other (fun _ => by have := h.out.tl; omega) _).set_other (fun _ => by have := h.out.tl; omega) _, hd.a1, hd.a2, hd.a3, hd.n1, hd.n8⟩
    have T3 := (T2.set_other (q := nbb) (o := 0) (fun _ => hne) (.int .i64 V)).set_other (q := nbb) (o := 1) (fun _ => hne) (.slice (some ⟨g1, 0, none⟩) N c1)
    have k3 : KF [f] w ((u1.setCell ⟨nbb, 0, none⟩ (.int .i64 V)).setCell ⟨nbb, 1, none⟩ (.slice (some ⟨g1, 0, none⟩) N c1)) := ((KF.of hU.out).set (p := ⟨nbb, 0, none⟩) (.inr hn2) _).set (p := ⟨nbb, 1, none⟩) (.inr hn2) _
    have bf3 := cellB ((hU.out.setCell (p := ⟨nbb, 0, none⟩) hn2 (.int .i64 V)).setCell (p := ⟨nbb, 1, none⟩) hn2 (.slice (some ⟨g1, 0, none⟩) N c1)) hbf
    generalize ((u1.setCell ⟨nbb, 0, none⟩ (.int .i64 V)).setCell ⟨nbb, 1, none⟩ (.slice (some ⟨g1, 0, none⟩) N c1)) = u3 at nb3 d3 T3 k3 bf3 ⊢
    have z0 := nb3.c 0 _ rfl
    have z1 := nb3.c 1 _ rfl
    have x2 := d3.b.c 2 _ rfl
    have x3 := d3.b.c 3 _ rfl
    have x4 := d3.b.f 2
    have x5 := d3.b.f 3
    have d4 := Lib.hid (d3.setV (V2 := V) (c := c1) T3 (by omega) (by omega))
    have k4 := Lib.hid ((k3.set (p := ⟨f, 2, none⟩) (.inl (by simp)) (.int .i64 V)).set (p := ⟨f, 3, none⟩) (.inl (by simp)) (.slice (some ⟨g1, 0, none⟩) N c1))
    clear d3 T3 k3 nb3 hd hU T2 nb r0 r1 q0 q1 T1
    go_wp2_with fail
    refine bodyPost_end (v := .tuple #[]) (by simp [results, Try.results57, go_sem]) rfl ?_
    exact ⟨_, _, rfl, d4.out, hg2, k4.out⟩
end Go.Proofs.Ytkefkophlhcbiaa
