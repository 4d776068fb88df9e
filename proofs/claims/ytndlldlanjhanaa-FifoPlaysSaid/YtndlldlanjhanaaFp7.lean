/- Queues of packets with what they hold: told. -/
import Derived.Test.YtndlldlanjhanaaFp6
namespace Go.Proofs.Ytndlldlanjhanaa
open Go.ChangeShapes Go.WideShapes Go.ChangeAt Go.RowKit Go.Shelf
set_option linter.unusedVariables false
set_option linter.unusedSimpArgs false
open BigFrame By Fq Bs Fp
attribute [local go_sem] Oper.semAt_some
namespace Fp
theorem _root_.Go.Proofs.Ytndlldlanjhanaa.By.Byt.own {W U : World} {a : Option Addr} {n c : Nat} {d : List Nat} (h : Byt W a n c d) {row : Option Nat} (hg : W.grownBy U row) (hr : ∀ r, row = some r → ∃ o : Obj, W.heap[r]? = some o ∧ o.isCells = false) : Byt U a n c d :=
  ⟨h.len, h.le, h.mx, fun hn => by
    obtain ⟨b, o, ha, hb, hc⟩ := h.row hn
    exact ⟨b, o, ha, Nat.lt_of_lt_of_le hb hg.size, fun i x hx => ⟨cell_kept (hc i x hx).1 hg hr, (hc i x hx).2⟩⟩⟩
/-- The frame of a round of told. -/
def AxT (w : World) (qb : Nat) (la : Option Addr) (len cap : Nat) (leave : Int) (l : List Pt) (pre : List Value) (x : Value) (a' : Act) (W : World) : Prop :=
  ∃ (xb : Nat) (a : Option Addr) (c : Nat) (p : Pt), l[pre.length]? = some p ∧ x = .agg #[.int .i64 p.x, .int .i64 p.t, .int .i64 p.C, .slice a p.d.length c] ∧
    a' = { tmps := #[.pointer (some ⟨qb, 0, none⟩), .slice la len cap, .int .i64 leave, undef, .pointer (some ⟨w.heap.size, 0, none⟩), .pointer (some ⟨w.heap.size + 1, 0, none⟩), .pointer (some ⟨w.heap.size + 1 + 1, 0, none⟩), .pointer (some ⟨w.heap.size + 1 + 1 + 1, 0, none⟩), .func (.func 27) #[] #[.pointer (some ⟨w.heap.size + 1 + 1 + 1 + 1, 0, none⟩)], .pointer (some ⟨xb, 0, none⟩), .pointer (some ⟨qb, 0, none⟩), .func (.func 27) #[] #[.pointer (some ⟨w.heap.size + 1 + 1 + 1 + 1, 0, none⟩)], .func (.func 27) #[] #[.pointer (some ⟨w.heap.size + 1 + 1 + 1 + 1, 0, none⟩)], .bool false, .func (.func 27) #[] #[.pointer (some ⟨w.heap.size + 1 + 1 + 1 + 1, 0, none⟩)], .agg #[.int .i64 p.x, .int .i64 p.t, .int .i64 p.C, .slice a p.d.length c], undef, undef, undef, undef, undef, undef, undef, undef, undef, undef, undef, undef, undef, undef, undef, undef, undef, undef, undef, undef, undef, undef, undef, undef, undef, undef, undef], defers := [] } ∧
    Byt W a p.d.length c p.d ∧ W.cell? ⟨xb, 0, none⟩ = some (.int .i64 p.x) ∧ W.cell? ⟨xb, 1, none⟩ = some (.int .i64 p.t) ∧ W.cell? ⟨xb, 2, none⟩ = some (.int .i64 p.C) ∧ W.cell? ⟨xb, 3, none⟩ = some (.slice a p.d.length c)
theorem AxT.own {w : World} {qb : Nat} {la : Option Addr} {len cap : Nat} {leave : Int} {l : List Pt} (pre : List Value) (x : Value) (a' : Act) : OwnFrom w.heap.size (fun (_ : Unit) W => AxT w qb la len cap leave l pre x a' W) := fun _ A B row ⟨xb, a, c, p, h1, h2, h3, hy, c0, c1, c2, c3⟩ hg hr =>
  ⟨xb, a, c, p, h1, h2, h3, hy.own hg (fun r e => (hr r e).2), cell_kept c0 hg (fun r e => (hr r e).2), cell_kept c1 hg (fun r e => (hr r e).2), cell_kept c2 hg (fun r e => (hr r e).2), cell_kept c3 hg (fun r e => (hr r e).2)⟩
/-- The law's own cells. -/
def CeT (w : World) (qb : Nat) (la : Option Addr) (len cap : Nat) (leave : Int) (k : Nat) (W : World) : Prop := W.cell? ⟨w.heap.size, 0, none⟩ = some (.slice la len cap) ∧ W.cell? ⟨w.heap.size + 1, 0, none⟩ = some (.int .i64 leave) ∧ W.cell? ⟨w.heap.size + 1 + 1, 0, none⟩ = some (.bool false) ∧ W.frozen? ⟨w.heap.size + 1 + 1, 0, none⟩ = false ∧ W.cell? ⟨w.heap.size + 1 + 1 + 1, 0, none⟩ = some (.int .i64 (k : Nat)) ∧ W.frozen? ⟨w.heap.size + 1 + 1 + 1, 0, none⟩ = false ∧ W.cell? ⟨w.heap.size + 1 + 1 + 1 + 1, 0, none⟩ = some (.pointer (some ⟨qb, 0, none⟩))
theorem CeT.bel {w W U : World} {qb : Nat} {la : Option Addr} {len cap : Nat} {leave : Int} {k : Nat} (h : CeT w qb la len cap leave k W) (hb : Below W.heap.size W U) : CeT w qb la len cap leave k U :=
  ⟨cellB hb h.1, cellB hb h.2.1, cellB hb h.2.2.1, (hb.frozen (p := ⟨w.heap.size + 1 + 1, 0, none⟩) (World.block_lt_of_cell? _ _ h.2.2.1)).trans h.2.2.2.1, cellB hb h.2.2.2.2.1, (hb.frozen (p := ⟨w.heap.size + 1 + 1 + 1, 0, none⟩) (World.block_lt_of_cell? _ _ h.2.2.2.2.1)).trans h.2.2.2.2.2.1, cellB hb h.2.2.2.2.2.2⟩
theorem CeT.up {w W : World} {qb : Nat} {la : Option Addr} {len cap : Nat} {leave : Int} {k : Nat} (h : CeT w qb la len cap leave k W) : CeT w qb la len cap leave (k + 1) (W.setCell ⟨w.heap.size + 1 + 1 + 1, 0, none⟩ (.int .i64 ((k : Int) + 1))) :=
  ⟨(World.cell?_setCell_other _ _ _ _ (by simp <;> omega)).trans h.1, (World.cell?_setCell_other _ _ _ _ (by simp <;> omega)).trans h.2.1, (World.cell?_setCell_other _ _ _ _ (by simp <;> omega)).trans h.2.2.1, (World.frozen?_setCell _ _ _ _).trans h.2.2.2.1, World.cell?_setCell_same _ _ _ h.2.2.2.2.1, (World.frozen?_setCell _ _ _ _).trans h.2.2.2.2.2.1, (World.cell?_setCell_other _ _ _ _ (by simp <;> omega)).trans h.2.2.2.2.2.2⟩
theorem keepsB {B : Nat} {W U : World} (h : Below W.heap.size W U) : KeepsFrom B W U := ⟨h.size, fun k o _ hk _ => (h.block k (Array.getElem?_eq_some_iff.1 hk).1).trans hk⟩
theorem CeT.own {β : Type} (w : World) (qb : Nat) (la : Option Addr) (len cap : Nat) (leave : Int) (f : β → Nat) : Own (fun (s : β) W => CeT w qb la len cap leave (f s) W) := fun s A B row h hg hr => ⟨cell_kept h.1 hg hr, cell_kept h.2.1 hg hr, cell_kept h.2.2.1 hg hr, (frozen_kept h.2.2.1 hg hr).trans h.2.2.2.1, cell_kept h.2.2.2.2.1 hg hr, (frozen_kept h.2.2.2.2.1 hg hr).trans h.2.2.2.2.2.1, cell_kept h.2.2.2.2.2.2 hg hr⟩
end Fp
set_option maxRecDepth 100000 in
theorem eql_fnA (f : Fn) (u : World) (x y : Array Value) : Sem.run Try.prog (binOp BinOp.eql 54 (.func f x y) Value.nilFunc) u = .ok (.bool false) u := by rfl
attribute [local go_sem] eql_fnA

set_option maxRecDepth 100000 in
set_option maxHeartbeats 4000000 in
theorem told_ok (w : World) (qb rb room pos dr rq lost : Nat) (la : Option Addr) (cap : Nat) (l : List Pt) (ns ns2 : List Nat) (h : PQ w qb rb room pos dr l ns) (hr : RQ w rq room lost la cap l ns2) (leave : Int) :
    Calls Try.prog 12 #[.pointer (some ⟨qb, 0, none⟩), .slice la l.length cap, .int .i64 leave] w fun e w' => e = .returned (.bool true) ∧ Below w.heap.size w w' := by
  replace hr := Lib.hid hr
  have hlb := hr.out.k
  refine (callsIn_wide (n := 6)).1 ?_
  refine callsIn_of_wp_marks Try.func12 rfl trivial ?_ rfl
  simp only [Try.ntmps12, List.size_toArray, List.length_cons, List.length_nil, Nat.reduceAdd, Nat.reduceSub, Array.replicate_succ, Array.replicate_zero, List.push_toArray, List.append_toArray, List.nil_append, List.cons_append]
  obtain ⟨len, hlen⟩ : ∃ len, RowKit.Hid (l.length = len) := ⟨_, Lib.hid rfl⟩
  rw [hlen.out]
  gi_wp2_with (refine ⟨trivial, ?_⟩; gi_at_call 20; refine (callsIn_wide.2 (qall_c _ _)).mono ?_; rintro e w' ⟨rfl, rfl⟩)
  have hB0 : Below w.heap.size w (((((w.alloc (.cells #[.slice la len cap] 38)).alloc (.cells #[.int .i64 leave] 3)).alloc (.cells #[.bool false] 4)).alloc (.cells #[.int .i64 0] 3)).alloc (.cells #[.pointer (some ⟨qb, 0, none⟩)] 29)) := (((((Below.refl _ w).alloc (Nat.le_refl _) _).alloc (by simp) _).alloc (by simp; omega) _).alloc (by simp; omega) _).alloc (by simp; omega) _
  have hI0 : CeT w qb la len cap leave 0 (((((w.alloc (.cells #[.slice la len cap] 38)).alloc (.cells #[.int .i64 leave] 3)).alloc (.cells #[.bool false] 4)).alloc (.cells #[.int .i64 0] 3)).alloc (.cells #[.pointer (some ⟨qb, 0, none⟩)] 29)) := ⟨by go_simp, by go_simp, by go_simp, by go_simp, by go_simp, by go_simp, by go_simp⟩
  have hS0 : (((((w.alloc (.cells #[.slice la len cap] 38)).alloc (.cells #[.int .i64 leave] 3)).alloc (.cells #[.bool false] 4)).alloc (.cells #[.int .i64 0] 3)).alloc (.cells #[.pointer (some ⟨qb, 0, none⟩)] 29)).cell? ⟨w.heap.size + 1 + 1 + 1 + 1, 0, none⟩ = some (.pointer (some ⟨qb, 0, none⟩)) := by go_simp
  have hZ0 : (((((w.alloc (.cells #[.slice la len cap] 38)).alloc (.cells #[.int .i64 leave] 3)).alloc (.cells #[.bool false] 4)).alloc (.cells #[.int .i64 0] 3)).alloc (.cells #[.pointer (some ⟨qb, 0, none⟩)] 29)).heap.size = w.heap.size + 1 + 1 + 1 + 1 + 1 := by simp
  generalize (((((w.alloc (.cells #[.slice la len cap] 38)).alloc (.cells #[.int .i64 leave] 3)).alloc (.cells #[.bool false] 4)).alloc (.cells #[.int .i64 0] 3)).alloc (.cells #[.pointer (some ⟨qb, 0, none⟩)] 29)) = W0 at hB0 hI0 hS0 hZ0 ⊢
  refine Rx.range_told (by omega) (gf := 27) (lb := #[.pointer (some ⟨w.heap.size + 1 + 1 + 1 + 1, 0, none⟩)]) rfl (enters_of Try.func27 (by kernel_rfl) rfl)
    (qall_seq (6 - 1) (by omega) w W0 qb rb room pos dr l ns h hB0 (w.heap.size + 1 + 1 + 1 + 1) (by omega) hS0) KpA.t (KpA.b (by omega) (by omega)) (Below.refl _ _) (fun _ => rfl)
    (fun pre W => CeT w qb la len cap leave pre.length W ∧ Below w.heap.size w W) (fun pre W => ((pre.length : Int) = leave ∧ CeT w qb la len cap leave pre.length W) ∧ Below w.heap.size w W) (.exit 0) (.inr ⟨0, rfl⟩)
    (OwnFrom.and ((CeT.own w qb la len cap leave (fun pre : List Value => pre.length)).from _) (ownFrom_below (Nat.le_refl _) (by omega)))
    (OwnFrom.and (Own.from (fun s A B row h hg hr => ⟨h.1, CeT.own w qb la len cap leave (fun pre : List Value => pre.length) s A B row h.2 hg hr⟩) _) (ownFrom_below (Nat.le_refl _) (by omega)))
    ⟨hI0, hB0⟩ (AxT w qb la len cap leave l) (fun pre x a' => ?ax) ?assign ?body ?done ?stop
  case ax => exact fun s A B row hs hg hr => AxT.own pre x a' s A B row hs hg (fun r e => ⟨by have := (hr r e).1; omega, (hr r e).2⟩)
  case assign =>
    rintro l' pre x W K hI ⟨p, hp, a, c, rfl, hy⟩ hK
    replace hK := Lib.hid hK
    have hba := (Below.refl W.heap.size W).alloc (Nat.le_refl _) (.cells #[.int .i64 p.x, .int .i64 p.t, .int .i64 p.C, .slice a p.d.length c] 25)
    gi_wp2
    exact hK.out _ _ (keepsB hba) ⟨hba.mono hI.2.size, hba.cell (p := ⟨w.heap.size + 1 + 1 + 1 + 1, 0, none⟩) (World.block_lt_of_cell? _ _ hI.1.2.2.2.2.2.2)⟩ ⟨hI.1.bel hba, hI.2.trans (hba.mono hI.2.size)⟩ ⟨W.heap.size, a, c, p, hp, rfl, rfl, hy.bel hba, by go_simp, by go_simp, by go_simp, by go_simp⟩
  case body =>
    rintro l' pre x a' W ⟨hI, hB⟩ ⟨xb, a, c, p, hp, rfl, rfl, hy, x0, x1, x2, x3⟩ hlen2
    obtain ⟨b, off, a2, c2, rfl, hb, s0, s1, s2, s3, hy2, _⟩ := (hr.out.bel hB).slot hp
    have hsame := Lib.hid (fun u (hu : Below W.heap.size W u) => rsameF_c p.x p.t p.C a a2 p.d.length c c2 p.d u (hy.bel hu) (hy2.bel hu))
    obtain ⟨k, hk⟩ : ∃ k, pre.length = k := ⟨_, rfl⟩
    have hkH := Lib.hid hk
    rw [hk] at hI s0 s1 s2 s3 hlen2
    rw [hlen.out] at hlen2
    have hkl : (k : Int) < (len : Int) := by omega
    have hk64 : (k : Int) < 64 := by have := hlen.out; omega
    obtain ⟨m, hm⟩ : ∃ m, RowKit.Hid (p.d.length = m) := ⟨_, Lib.hid rfl⟩
    rw [hm.out] at x3 s3 hsame
    obtain ⟨i0, i1, i2, i3, i4, i5, i6⟩ := hI
    have hI : CeT w qb (some ⟨b, off, none⟩) len cap leave k W := ⟨i0, i1, i2, i3, i4, i5, i6⟩
    replace hI := Lib.hid hI
    replace hB := Lib.hid hB
    clear hk hp hy hy2
    gi_wp2
    gi_region_with (refine ⟨trivial, ?_⟩; gi_at_call 17; refine (CallsIn.inRound l' (callsIn_wide.2 (hsame.out _ (Below.refl _ _).drew))).mono ?_; rintro e u ⟨rfl, hbu⟩)
    all_goals
      have hWu := bNext ((Below.refl W.heap.size W).drew) hbu (Nat.le_refl _)
      have hIu := hI.out.bel hWu
      have hBu := hB.out.trans (hWu.mono hB.out.size)
      have hIu2 := hIu.up
      obtain ⟨j0, j1, j2, j3, j4, j5, j6⟩ := hIu
      have hkp2 : ∀ B, KeepsFrom B W (u.setCell ⟨w.heap.size + 1 + 1 + 1, 0, none⟩ (.int .i64 ((k : Int) + 1))) := fun B => (keepsB (B := B) hWu).trans ((KeepsOthers.setCell u ⟨w.heap.size + 1 + 1 + 1, 0, none⟩ (.int .i64 ((k : Int) + 1))).from _)
      have hKA : KpA w.heap.size (w.heap.size + 1 + 1 + 1 + 1) W (u.setCell ⟨w.heap.size + 1 + 1 + 1, 0, none⟩ (.int .i64 ((k : Int) + 1))) := ⟨(hWu.mono hB.out.size).setCell (p := ⟨w.heap.size + 1 + 1 + 1, 0, none⟩) (by simp only; omega) _, (World.cell?_setCell_other _ _ _ _ (by simp <;> omega)).trans (hWu.cell (p := ⟨w.heap.size + 1 + 1 + 1 + 1, 0, none⟩) (World.block_lt_of_cell? _ _ i6))⟩
      have hBu2 := hBu.setCell (p := ⟨w.heap.size + 1 + 1 + 1, 0, none⟩) (by simp only; omega) (.int .i64 ((k : Int) + 1))
      replace hIu2 := Lib.hid hIu2
      replace hKA := Lib.hid hKA
      replace hkp2 := Lib.hid hkp2
      replace hBu2 := Lib.hid hBu2
      clear hbu hWu hBu j0 j6 x0 x1 x2 x3 s0 s1 s2 s3 i0 i1 i2 i3 i4 i5 i6
      by_cases hlv : (k : Int) + 1 = leave
      · subst hlv
        gi_wp2
        exact .inr ⟨.inr ⟨0, rfl, rfl⟩, hkp2.out _, ⟨by rw [List.length_append, hkH.out]; rfl, by rw [List.length_append, hkH.out]; exact hIu2.out⟩, hBu2.out⟩
      · gi_wp2
        exact ⟨hkp2.out _, hKA.out, by rw [hkH.out]; exact hIu2.out, hBu2.out⟩
  case done =>
    rintro D xs W hD hxs ⟨hI, hB⟩ hK
    rw [hxs, hlen.out] at hI
    obtain ⟨j0, j1, j2, j3, j4, j5, j6⟩ := hI
    gi_wp2
    all_goals
      have hK' := Pk.heap_setCell ⟨w.heap.size + 1 + 1, 0, none⟩ (.bool true) hK rfl
      have hr0 : (W.setCell ⟨w.heap.size + 1 + 1, 0, none⟩ (.bool true)).cell? ⟨w.heap.size + 1 + 1, 0, none⟩ = some (.bool true) := World.cell?_setCell_same _ _ _ j2
      have hB' := hB.setCell (p := ⟨w.heap.size + 1 + 1, 0, none⟩) (by simp only; omega) (.bool true)
      refine ⟨by simp, .inl ⟨_, _, rfl, run_takeDeferred hK', ?_⟩⟩
      have hc5 := cell_kept hr0 (grownBy_putObj' _ D (.deferred none)) (fun r e => by cases e; exact ⟨_, hK', rfl⟩)
      refine ⟨.bool true, ?_, rfl, hB'.trans (belowK_b (w := w) (Nat.le_refl _) _ D _ _ (by omega) hK' rfl rfl)⟩
      simp [results, Try.results12, go_sem, hc5]
  case stop =>
    rintro D pre W hD hpre ⟨⟨hlv, hI⟩, hB⟩ hK
    obtain ⟨j0, j1, j2, j3, j4, j5, j6⟩ := hI
    subst hlv
    gi_wp2
    all_goals
      have hK' := Pk.heap_setCell ⟨w.heap.size + 1 + 1, 0, none⟩ (.bool true) hK rfl
      have hr0 : (W.setCell ⟨w.heap.size + 1 + 1, 0, none⟩ (.bool true)).cell? ⟨w.heap.size + 1 + 1, 0, none⟩ = some (.bool true) := World.cell?_setCell_same _ _ _ j2
      have hB' := hB.setCell (p := ⟨w.heap.size + 1 + 1, 0, none⟩) (by simp only; omega) (.bool true)
      refine ⟨by simp, .inl ⟨_, _, rfl, run_takeDeferred hK', ?_⟩⟩
      have hc5 := cell_kept hr0 (grownBy_putObj' _ D (.deferred none)) (fun r e => by cases e; exact ⟨_, hK', rfl⟩)
      refine ⟨.bool true, ?_, rfl, hB'.trans (belowK_b (w := w) (Nat.le_refl _) _ D _ _ (by omega) hK' rfl rfl)⟩
      simp [results, Try.results12, go_sem, hc5]
end Go.Proofs.Ytndlldlanjhanaa
