/- The reference's scheduler: New, its state while it is made. The reference's scheduler: New. The reference's scheduler: New refused; New whatever it is given. The scheduler: picks whatever is told; times compared. The scheduler: rows of heads opened. The scheduler: which flow is served. -/
import Derived.Test.YtbbcongfaoopcaaF22
import Derived.Test.YtbbcongfaoopcaaM1
namespace Go.Proofs.Ytbbcongfaoopcaa
open Go.ChangeShapes Go.WideShapes Go.ChangeAt Go.RowKit Go.Maps
set_option linter.unusedVariables false
set_option linter.unusedSimpArgs false
open BigFrame Pk Fq Vr Fa

namespace Fa
def OwnI (w : World) (B : Nat) (v : Value) (R : Nat → Int) (n : Nat) : Prop := w.ownsRow B 3 1 v n (iC R n)
theorem OwnI.lt {w : World} {B : Nat} {v : Value} {R : Nat → Int} {n : Nat} (h : OwnI w B v R n) {q : Nat} (hq : v.ownBlock = some q) : B ≤ q ∧ q < w.heap.size := by
  unfold OwnI at h
  exact h.lt q hq
theorem OwnI.kf {w w' : World} {B : Nat} {v : Value} {R : Nat → Int} {n : Nat} {l : List Nat} (h : OwnI w B v R n) (k : KF l w w') (hl : ∀ q, v.ownBlock = some q → q ∉ l) : OwnI w' B v R n := by
  refine ⟨h.1, ?_⟩
  rcases h.2 with hh | ⟨g, cap, cur, h1, h2, h3, h4⟩
  · exact .inl hh
  · exact .inr ⟨g, cap, cur, h1, h2, (k.k g (Array.getElem?_eq_some_iff.1 h3).1 (hl g (by rw [h1]; rfl))).trans h3, h4⟩
theorem OwnI.nil (w : World) (B : Nat) (R : Nat → Int) : OwnI w B (.slice none 0 0) R 0 := ⟨rfl, .inl ⟨rfl, rfl⟩⟩
theorem OwnI.blk {w : World} {B n c : Nat} {a : Option Addr} {R : Nat → Int} (h : OwnI w B (.slice a n c) R n) (hn : 0 < n) : ∃ g, a = some ⟨g, 0, none⟩ ∧ B ≤ g ∧ Blk w g (iC R n) := by
  unfold OwnI at h
  obtain ⟨g, cap, e, hb, hl⟩ := h.form hn
  cases e
  exact ⟨g, rfl, hb, fun i x hx => by
    have hi : i < (iC R n).length := (List.getElem?_eq_some_iff.1 hx).1
    rw [h.cellAt i (by rw [← h.1]; exact hi)]; exact hx, fun o => h.frozenAt o, hl⟩
theorem OwnB.blk {w : World} {B n c : Nat} {a : Option Addr} {R : Nat → Bool} (h : OwnB w B (.slice a n c) R n) (hn : 0 < n) : ∃ g, a = some ⟨g, 0, none⟩ ∧ B ≤ g ∧ Blk w g (bC R n) := by
  unfold OwnB at h
  obtain ⟨g, cap, e, hb, hl⟩ := h.form hn
  cases e
  exact ⟨g, rfl, hb, fun i x hx => by
    have hi : i < (bC R n).length := (List.getElem?_eq_some_iff.1 hx).1
    rw [h.cellAt i (by rw [← h.1]; exact hi)]; exact hx, fun o => h.frozenAt o, hl⟩
theorem wpList_appI {w : World} {ops : Array Oper} {rest : List Oper} {o : Oper} {a : Act} {Q : Exit → Act → World → Prop} (hgd : o.guard = none) (s x : Operand)
    (ho : o.op = .call { callee := .builtin .append, args := #[s, x], argTypes := #[22, 22] }) (B : Nat) (v : Value) (R : Nat → Int) (n : Nat) (hs : a.eval s = v) (hown : OwnI w B v R n) (hB : B ≤ w.heap.size)
    {q c : Nat} (hx : a.eval x = .slice (some ⟨q, 0, none⟩) 1 c) (hk : Blk w q [.int .i64 (R n)]) (hl : n ≤ 1000000)
    (h : ∀ (a' : Option Addr) (n' c' : Nat) w', OwnI w' B (.slice a' n' c') R (n + 1) → n' = n + 1 → w'.heap.size ≥ w.heap.size → w.grownBy w' v.ownBlock → ((Value.slice a' n' c').ownBlock = v.ownBlock ∨ (Value.slice a' n' c').ownBlock = some w.heap.size) → wpList Try.prog ops Q rest (a.put o.dst (.slice a' n' c')) w') : wpList Try.prog ops Q (o :: rest) a w := by
  obtain ⟨i0, hi0, hz0, hz1, hz2⟩ := info_parts info_int
  refine wpList_append_own_at w hgd s x 22 ho B 3 i0 _ 1 8 Try.underlying22 hi0 hz0 hz1 hz2 rfl (by omega) v n (iC R n) hs hown ⟨q, 0, none⟩ 1 c [.int .i64 (R n)] hx rfl (fun j u hj => ?_) (by intro u hu; simp at hu; rcases hu with rfl; rfl) (by unfold maxLen; omega) (by omega) hB (fun v' w' h1 h2 _ h4 => ?_)
  · have := hk.c j u hj
    rw [Addr.add_lit, Nat.zero_add]
    exact this
  · have h3 : OwnI w' B v' R (n + 1) := by
      unfold OwnI
      rw [iC_succ]
      exact h1
    rcases h3.2 with ⟨e, e2⟩ | ⟨g, cap, cur, e, _⟩
    · simp at e2
    · subst e
      exact h _ _ _ w' h3 rfl h2.size h2 h4
theorem wp_appI {w : World} {o : Oper} {a : Act} {K : Act → World → Prop} {Q : Exit → Act → World → Prop} (s x : Operand)
    (ho : o.op = .call { callee := .builtin .append, args := #[s, x], argTypes := #[22, 22] }) (B : Nat) (v : Value) (R : Nat → Int) (n : Nat) (hs : a.eval s = v) (hown : OwnI w B v R n) (hB : B ≤ w.heap.size)
    {q c : Nat} (hx : a.eval x = .slice (some ⟨q, 0, none⟩) 1 c) (hk : Blk w q [.int .i64 (R n)]) (hl : n ≤ 1000000)
    (h : ∀ (a' : Option Addr) (n' c' : Nat) w', OwnI w' B (.slice a' n' c') R (n + 1) → n' = n + 1 → w'.heap.size ≥ w.heap.size → w.grownBy w' v.ownBlock → ((Value.slice a' n' c').ownBlock = v.ownBlock ∨ (Value.slice a' n' c').ownBlock = some w.heap.size) → K (a.put o.dst (.slice a' n' c')) w') : o.wp Try.prog a w K Q := by
  obtain ⟨i0, hi0, hz0, hz1, hz2⟩ := info_parts info_int
  refine wp_append_lies w s x 22 ho B 3 i0 _ 1 8 Try.underlying22 hi0 hz0 hz1 hz2 rfl (by omega) v n (iC R n) hs hown ⟨q, 0, none⟩ 1 c [.int .i64 (R n)] hx rfl (fun j u hj => ?_) (by intro u hu; simp at hu; rcases hu with rfl; rfl) (by omega) (by unfold maxLen; omega) (by omega) hB _ rfl (fun g cap w' h1 h2 h3 h4 => ?_)
  · have := hk.c j u hj
    rw [Addr.add_lit, Nat.zero_add]
    exact this
  · refine h (some ⟨g, 0, none⟩) (n + 1) cap w' ?_ rfl h2.size h2 ?_
    · unfold OwnI
      rw [iC_succ]
      exact h1
    · rcases h3 with e | e
      · exact .inl e.symm
      · subst e; exact .inr rfl
/-- The reference's scheduler while it is made. -/
structure NS (w : World) (r iw is id : Nat) (W : Nat → Int) (s : Int) (wv : Option Addr) (wc : Nat) (sv : Option Addr) (sc : Nat) (dv : Option Addr) (dc : Nat) : Prop where
  b : Blk w r [.slice wv iw wc, .int .i64 s, .int .i64 0, .slice none 0 0, .slice sv is sc, .slice dv id dc]
  ow : OwnI w (r + 1) (.slice wv iw wc) W iw
  os : OwnI w (r + 1) (.slice sv is sc) nz is
  od : OwnB w (r + 1) (.slice dv id dc) nof id
  d1 : ∀ q, (Value.slice wv iw wc).ownBlock = some q → (Value.slice sv is sc).ownBlock ≠ some q
  d2 : ∀ q, (Value.slice wv iw wc).ownBlock = some q → (Value.slice dv id dc).ownBlock ≠ some q
  d3 : ∀ q, (Value.slice sv is sc).ownBlock = some q → (Value.slice dv id dc).ownBlock ≠ some q
variable {w w' u : World} {r iw is id : Nat} {W : Nat → Int} {s : Int} {wv : Option Addr} {wc : Nat} {sv : Option Addr} {sc : Nat} {dv : Option Addr} {dc : Nat}
theorem NS.kf (h : NS w r iw is id W s wv wc sv sc dv dc) (k : KF [] w w') : NS w' r iw is id W s wv wc sv sc dv dc :=
  ⟨k.blk h.b (by simp), h.ow.kf k (fun q _ => by simp), h.os.kf k (fun q _ => by simp), h.od.kf k (fun q _ => by simp), h.d1, h.d2, h.d3⟩
theorem kset {u : World} {r o : Nat} (v : Value) : KF [r] u (u.setCell ⟨r, o, none⟩ v) := (KF.refl [r] u).set (p := ⟨r, o, none⟩) (.inl (by simp)) v
theorem NS.setS (h : NS w r iw is id W s wv wc sv sc dv dc) (s2 : Int) : NS (w.setCell ⟨r, 1, none⟩ (.int .i64 s2)) r iw is id W s2 wv wc sv sc dv dc :=
  ⟨h.b.set (i := 1) (by simp) _, h.ow.kf (kset _) (fun q e => by have := (h.ow.lt e).1; simp; omega), h.os.kf (kset _) (fun q e => by have := (h.os.lt e).1; simp; omega), h.od.kf (kset _) (fun q e => by have := (h.od.lt e).1; simp; omega), h.d1, h.d2, h.d3⟩
theorem grownK {u w5 : World} {b : Option Nat} (g : u.grownBy w5 b) : KF b.toList u w5 := KF.grown2 (KF.refl _ u) g (fun q e => by rw [e]; simp)
theorem NS.appW (h : NS u r iw is id W s wv wc sv sc dv dc) {w5 : World} {a5 : Option Addr} {c5 : Nat} (ho : OwnI w5 (r + 1) (.slice a5 (iw + 1) c5) W (iw + 1)) (g : u.grownBy w5 (Value.slice wv iw wc).ownBlock)
    (hor : (Value.slice a5 (iw + 1) c5).ownBlock = (Value.slice wv iw wc).ownBlock ∨ (Value.slice a5 (iw + 1) c5).ownBlock = some u.heap.size) : NS (w5.setCell ⟨r, 0, none⟩ (.slice a5 (iw + 1) c5)) r (iw + 1) is id W s a5 c5 sv sc dv dc := by
  have k := grownK g
  have hm : ∀ x, x ∈ (Value.slice wv iw wc).ownBlock.toList → (Value.slice wv iw wc).ownBlock = some x := fun x hx => by simpa using hx
  have hb := k.blk h.b (fun e => by have := (h.ow.lt (hm _ e)).1; omega)
  have hS := h.os.kf k (fun q e e2 => h.d1 q (hm _ e2) e)
  have hD := h.od.kf k (fun q e e2 => h.d2 q (hm _ e2) e)
  refine ⟨hb.set (i := 0) (by simp) _, ho.kf (kset _) (fun q e => by have := (ho.lt e).1; simp; omega), hS.kf (kset _) (fun q e => by have := (hS.lt e).1; simp; omega), hD.kf (kset _) (fun q e => by have := (hD.lt e).1; simp; omega), fun q e e2 => ?_, fun q e e2 => ?_, h.d3⟩
  · rcases hor with e3 | e3
    · rw [e3] at e; exact h.d1 q e e2
    · rw [e3] at e; cases e; have := (h.os.lt e2).2; omega
  · rcases hor with e3 | e3
    · rw [e3] at e; exact h.d2 q e e2
    · rw [e3] at e; cases e; have := (h.od.lt e2).2; omega
theorem NS.appS (h : NS u r iw is id W s wv wc sv sc dv dc) {w5 : World} {a5 : Option Addr} {c5 : Nat} (ho : OwnI w5 (r + 1) (.slice a5 (is + 1) c5) nz (is + 1)) (g : u.grownBy w5 (Value.slice sv is sc).ownBlock)
    (hor : (Value.slice a5 (is + 1) c5).ownBlock = (Value.slice sv is sc).ownBlock ∨ (Value.slice a5 (is + 1) c5).ownBlock = some u.heap.size) : NS (w5.setCell ⟨r, 4, none⟩ (.slice a5 (is + 1) c5)) r iw (is + 1) id W s wv wc a5 c5 dv dc := by
  have k := grownK g
  have hm : ∀ x, x ∈ (Value.slice sv is sc).ownBlock.toList → (Value.slice sv is sc).ownBlock = some x := fun x hx => by simpa using hx
  have hb := k.blk h.b (fun e => by have := (h.os.lt (hm _ e)).1; omega)
  have hW := h.ow.kf k (fun q e e2 => h.d1 q e (hm _ e2))
  have hD := h.od.kf k (fun q e e2 => h.d3 q (hm _ e2) e)
  refine ⟨hb.set (i := 4) (by simp) _, hW.kf (kset _) (fun q e => by have := (hW.lt e).1; simp; omega), ho.kf (kset _) (fun q e => by have := (ho.lt e).1; simp; omega), hD.kf (kset _) (fun q e => by have := (hD.lt e).1; simp; omega), fun q e e2 => ?_, h.d2, fun q e e2 => ?_⟩
  · rcases hor with e3 | e3
    · rw [e3] at e2; exact h.d1 q e e2
    · rw [e3] at e2; cases e2; have := (h.ow.lt e).2; omega
  · rcases hor with e3 | e3
    · rw [e3] at e; exact h.d3 q e e2
    · rw [e3] at e; cases e; have := (h.od.lt e2).2; omega
theorem NS.appD (h : NS u r iw is id W s wv wc sv sc dv dc) {w5 : World} {a5 : Option Addr} {c5 : Nat} (ho : OwnB w5 (r + 1) (.slice a5 (id + 1) c5) nof (id + 1)) (g : u.grownBy w5 (Value.slice dv id dc).ownBlock)
    (hor : (Value.slice a5 (id + 1) c5).ownBlock = (Value.slice dv id dc).ownBlock ∨ (Value.slice a5 (id + 1) c5).ownBlock = some u.heap.size) : NS (w5.setCell ⟨r, 5, none⟩ (.slice a5 (id + 1) c5)) r iw is (id + 1) W s wv wc sv sc a5 c5 := by
  have k := grownK g
  have hm : ∀ x, x ∈ (Value.slice dv id dc).ownBlock.toList → (Value.slice dv id dc).ownBlock = some x := fun x hx => by simpa using hx
  have hb := k.blk h.b (fun e => by have := (h.od.lt (hm _ e)).1; omega)
  have hW := h.ow.kf k (fun q e e2 => h.d2 q e (hm _ e2))
  have hS := h.os.kf k (fun q e e2 => h.d3 q e (hm _ e2))
  refine ⟨hb.set (i := 5) (by simp) _, hW.kf (kset _) (fun q e => by have := (hW.lt e).1; simp; omega), hS.kf (kset _) (fun q e => by have := (hS.lt e).1; simp; omega), ho.kf (kset _) (fun q e => by have := (ho.lt e).1; simp; omega), h.d1, fun q e e2 => ?_, fun q e e2 => ?_⟩
  · rcases hor with e3 | e3
    · rw [e3] at e2; exact h.d2 q e e2
    · rw [e3] at e2; cases e2; have := (h.ow.lt e).2; omega
  · rcases hor with e3 | e3
    · rw [e3] at e2; exact h.d3 q e e2
    · rw [e3] at e2; cases e2; have := (h.os.lt e).2; omega
end Fa
end Go.Proofs.Ytbbcongfaoopcaa
namespace Go.Proofs.Ytbbcongfaoopcaa
open Go.ChangeShapes Go.WideShapes Go.ChangeAt Go.RowKit Go.Maps
set_option linter.unusedVariables false
set_option linter.unusedSimpArgs false
open BigFrame Pk Fq Vr Fa

namespace Fa
def NewRF (N : Nat) (g : Nat → Int) (w : World) (e : Ending) (w' : World) : Prop :=
  ∃ B tb ct, e = .returned (.tuple #[.pointer (some ⟨B.r, 0, none⟩), .int .i64 0]) ∧ RF w' B tb ct N (sumW g N) 0 g nz nof nz nz ∧ w.heap.size ≤ B.r ∧ w.heap.size ≤ B.wb ∧ w.heap.size ≤ B.sb ∧ w.heap.size ≤ B.db ∧ w.heap.size ≤ tb ∧ Below w.heap.size w w'
theorem NS.keepW {u : World} {r iw is id : Nat} {W : Nat → Int} {s : Int} {wv : Option Addr} {wc : Nat} {sv : Option Addr} {sc : Nat} {dv : Option Addr} {dc : Nat} (h : NS u r iw is id W s wv wc sv sc dv dc) {w5 : World} {x : Option Nat} (g : u.grownBy w5 x) (hx : ∀ q, x = some q → r < q) :
    Blk w5 r [.slice wv iw wc, .int .i64 s, .int .i64 0, .slice none 0 0, .slice sv is sc, .slice dv id dc] :=
  (grownK g).blk h.b (fun e => by have := hx _ (by simpa using e); omega)
theorem own_lt {w : World} {B : Nat} {v : Value} {R : Nat → Int} {n : Nat} (h : OwnI w (B + 1) v R n) (q : Nat) (e : v.ownBlock = some q) : B < q := by have := (h.lt e).1; omega
theorem ownb_lt {w : World} {B : Nat} {v : Value} {R : Nat → Bool} {n : Nat} (h : OwnB w (B + 1) v R n) (q : Nat) (e : v.ownBlock = some q) : B < q := by have := (h.lt e).1; omega
end Fa

set_option maxRecDepth 100000 in
set_option maxHeartbeats 8000000 in
theorem rfnew_ok (w : World) (b off N c : Nat) (g : Nat → Int) (h1 : 1 ≤ N) (h8 : N ≤ 8) (hb : b < w.heap.size) (hc : ∀ i, i < N → w.cell? ⟨b, off + i, none⟩ = some (.int .i64 (g i))) (hg : ∀ i, i < N → 1 ≤ g i ∧ g i ≤ 16) :
    Calls Try.prog 14 #[.slice (some ⟨b, off, none⟩) N c] w (NewRF N g w) := by
  have hN1 : ¬ (N : Int) < 1 := by omega
  have hN8 : ¬ (8 : Int) < (N : Int) := by omega
  replace hc := Lib.hid hc
  replace hg := Lib.hid hg
  have fb := blkN_new w [.slice none 0 0, .int .i64 0, .int .i64 0, .slice none 0 0, .slice none 0 0, .slice none 0 0] 54
  have hB0 := (Below.refl w.heap.size w).alloc (Nat.le_refl _) (.cells #[.slice none 0 0, .int .i64 0, .int .i64 0, .slice none 0 0, .slice none 0 0, .slice none 0 0] 54)
  go_enter Try.func14, Try.ntmps14
  go_upto_region 4 with fail
  generalize hW1 : w.alloc (.cells #[.slice none 0 0, .int .i64 0, .int .i64 0, .slice none 0 0, .slice none 0 0, .slice none 0 0] 54) = W1
  replace fb : Blk W1 w.heap.size [.slice none 0 0, .int .i64 0, .int .i64 0, .slice none 0 0, .slice none 0 0, .slice none 0 0] := by rw [← hW1]; exact fb
  rw [hW1] at hB0
  clear hW1
  obtain ⟨r, hr⟩ : ∃ r, RowKit.Hid (w.heap.size = r) := ⟨_, Lib.hid rfl⟩
  rw [hr.out] at fb ⊢
  have hN0 : RowKit.Hid (NS W1 r 0 0 0 g (sumW g 0) none 0 none 0 none 0) := Lib.hid ⟨fb, OwnI.nil _ _ _, OwnI.nil _ _ _, OwnB.nil _ _ _, (fun q e => by cases e), (fun q e => by cases e), (fun q e => by cases e)⟩
  replace hB0 := Lib.hid hB0
  clear fb
  go_wp2_with fail
  go_loopw [2, 3, 5] (fun _ _ s5 wr => ∃ (i : Nat) (wv : Option Addr) (wc : Nat) (sv : Option Addr) (sc : Nat) (dv : Option Addr) (dc : Nat), s5 = .int .i64 (i : Nat) ∧ i ≤ N ∧ RowKit.Hid (NS wr r i i i g (sumW g i) wv wc sv sc dv dc) ∧ RowKit.Hid (Below r w wr)) (fun _ _ s5 _ => N - (intOf s5).toNat)
  case atStart => exact ⟨0, none, 0, none, 0, none, 0, rfl, Nat.zero_le _, hN0, Lib.hid (by rw [← hr.out]; exact hB0.out)⟩
  case round =>
    obtain ⟨i, wv, wc, sv, sc, dv, dc, rfl, hi, hS, hK⟩ := hrel
    have ii : (i : Int) ≤ (N : Int) := by omega
    by_cases hlt : i < N
    · have ii1 : (i : Int) < (N : Int) := by omega
      have hbr : b < r := by rw [← hr.out]; exact hb
      have x0 := (hK.out.cell (p := ⟨b, off + i, none⟩) hbr).trans (hc.out i hlt)
      have hgi := hg.out i hlt
      have sb := sumW_b hg.out i (by omega)
      have hs2 := Lib.hid (show sumW g (i + 1) = sumW g i + g i from rfl)
      obtain ⟨y, hy⟩ : ∃ y, RowKit.Hid (g i = y) := ⟨_, Lib.hid rfl⟩
      obtain ⟨s, hs⟩ : ∃ s, RowKit.Hid (sumW g i = s) := ⟨_, Lib.hid rfl⟩
      rw [hy.out] at x0 hgi
      rw [hs.out] at sb hS
      obtain ⟨g1, g2⟩ := hgi
      obtain ⟨s3, s4⟩ := sb
      have g3 : ¬ y < 1 := by omega
      have g4 : ¬ 16 < y := by omega
      have hwrap : IntKind.i64.wrap (s + y) = s + y := IntWalk.i64_in _ (by omega)
      have b0 := hS.out.b.c 0 _ rfl
      have hrl := hS.out.b.l
      go_upto_region 9 with fail
      refine wp_region_noPanic ?_
      refine Stg.wp_region_L [10, 13] (Vr.SB wr) (by kernel_rfl) (fun _ => (Below.refl _ _).drew) (fun hHeld => ?_)
      refine Stg.wpAnyL_start (n' := 14) (l' := #[false, false, false, false, false, false, false, false, false, false, false, false, false, false]) (by kernel_rfl) (by kernel_rfl) ?_
      refine Stg.wpAnyL_free (i := 0) (v := ?_) 0 rfl (by kernel_rfl) (by kernel_rfl) (by kernel_rfl) (by kernel_rfl) (by kernel_rfl) (fun _ _ _ h => h) (Or.inl ⟨by kernel_rfl, ?_⟩) (by assumption) ?_
      rotate_left
      · intro u _
        try simp only [List.getElem_toArray, List.getElem_cons_succ, List.getElem_cons_zero]
        go_simp
        try with_reducible rfl
      try simp only [Act.put, List.setIfInBounds_toArray, List.set_cons_zero, List.set_cons_succ]
      refine Stg.wpAnyL_free (i := 1) (v := ?_) 0 rfl (by kernel_rfl) (by kernel_rfl) (by kernel_rfl) (by kernel_rfl) (by kernel_rfl) (fun _ _ _ h => h) (Or.inl ⟨by kernel_rfl, ?_⟩) (by assumption) ?_
      rotate_left
      · intro u _
        try simp only [List.getElem_toArray, List.getElem_cons_succ, List.getElem_cons_zero]
        go_simp
        try with_reducible rfl
      try simp only [Act.put, List.setIfInBounds_toArray, List.set_cons_zero, List.set_cons_succ]
      refine Stg.wpAnyL_free (i := 2) (v := ?_) 0 rfl (by kernel_rfl) (by kernel_rfl) (by kernel_rfl) (by kernel_rfl) (by kernel_rfl) (fun _ _ _ h => h) (Or.inl ⟨by kernel_rfl, ?_⟩) (by assumption) ?_
      rotate_left
      · intro u _
        try simp only [List.getElem_toArray, List.getElem_cons_succ, List.getElem_cons_zero]
        go_simp
        try with_reducible rfl
      try simp only [Act.put, List.setIfInBounds_toArray, List.set_cons_zero, List.set_cons_succ]
      refine Stg.wpAnyL_start (n' := 11) (l' := #[true, true, true, false, false, false, false, false, false, false, false, false, false, false]) (by kernel_rfl) (by kernel_rfl) ?_
      refine Stg.wpAnyL_free (i := 3) (v := ?_) 0 rfl (by kernel_rfl) (by kernel_rfl) (by kernel_rfl) (by kernel_rfl) (by kernel_rfl) (fun _ _ _ h => h) (Or.inl ⟨by kernel_rfl, ?_⟩) (by assumption) ?_
      rotate_left
      · intro u _
        try simp only [List.getElem_toArray, List.getElem_cons_succ, List.getElem_cons_zero]
        go_simp
        try with_reducible rfl
      try simp only [Act.put, List.setIfInBounds_toArray, List.set_cons_zero, List.set_cons_succ]
      refine Stg.wpAnyL_take (i := 4) (v := ?_) [10, 11, 12, 13] 0 rfl (by kernel_rfl) (by kernel_rfl) (by kernel_rfl) (by kernel_rfl) (by kernel_rfl) (fun _ _ _ h => h) (Or.inl ⟨by kernel_rfl, ?_⟩) (by assumption) ?_
      rotate_left
      · intro u hSu
        skip
        have sB := hSu rfl
        have y0 := cellB sB x0
        have y1 := cellB sB b0
        try simp only [List.getElem_toArray, List.getElem_cons_succ, List.getElem_cons_zero]
        go_simp
        try with_reducible rfl
      try simp only [Act.put, List.setIfInBounds_toArray, List.set_cons_zero, List.set_cons_succ]
      refine Stg.wpAnyL_free (i := 5) (v := ?_) 0 rfl (by kernel_rfl) (by kernel_rfl) (by kernel_rfl) (by kernel_rfl) (by kernel_rfl) (fun _ _ _ h => h) (Or.inl ⟨by kernel_rfl, ?_⟩) (by assumption) ?_
      rotate_left
      · intro u _
        try simp only [List.getElem_toArray, List.getElem_cons_succ, List.getElem_cons_zero]
        go_simp
        try with_reducible rfl
      try simp only [Act.put, List.setIfInBounds_toArray, List.set_cons_zero, List.set_cons_succ]
      refine Stg.wpAnyL_start (n' := 8) (l' := #[true, true, true, true, true, true, false, false, false, false, false, false, false, false]) (by kernel_rfl) (by kernel_rfl) ?_
      refine Stg.wpAnyL_free (i := 6) (v := ?_) 0 rfl (by kernel_rfl) (by kernel_rfl) (by kernel_rfl) (by kernel_rfl) (by kernel_rfl) (fun _ _ _ h => h) (Or.inl ⟨by kernel_rfl, ?_⟩) (by assumption) ?_
      rotate_left
      · intro u _
        try simp only [List.getElem_toArray, List.getElem_cons_succ, List.getElem_cons_zero]
        go_simp
        try with_reducible rfl
      try simp only [Act.put, List.setIfInBounds_toArray, List.set_cons_zero, List.set_cons_succ]
      refine Stg.wpAnyL_free (i := 7) (v := ?_) 0 rfl (by kernel_rfl) (by kernel_rfl) (by kernel_rfl) (by kernel_rfl) (by kernel_rfl) (fun _ _ _ h => h) (Or.inl ⟨by kernel_rfl, ?_⟩) (by assumption) ?_
      rotate_left
      · intro u _
        try simp only [List.getElem_toArray, List.getElem_cons_succ, List.getElem_cons_zero]
        go_simp
        try with_reducible rfl
      try simp only [Act.put, List.setIfInBounds_toArray, List.set_cons_zero, List.set_cons_succ]
      refine Stg.wpAnyL_take (i := 8) (v := ?_) [9, 10, 11, 12, 13] 0 rfl (by kernel_rfl) (by kernel_rfl) (by kernel_rfl) (by kernel_rfl) (by kernel_rfl) (fun _ _ _ h => h) (Or.inl ⟨by kernel_rfl, ?_⟩) (by assumption) ?_
      rotate_left
      · intro u hSu
        skip
        have sB := hSu rfl
        have y0 := cellB sB x0
        have y1 := cellB sB b0
        try simp only [List.getElem_toArray, List.getElem_cons_succ, List.getElem_cons_zero]
        go_simp
        try with_reducible rfl
      try simp only [Act.put, List.setIfInBounds_toArray, List.set_cons_zero, List.set_cons_succ]
      refine Stg.wpAnyL_start (n' := 5) (l' := #[true, true, true, true, true, true, true, true, true, false, false, false, false, false]) (by kernel_rfl) (by kernel_rfl) ?_
      refine Stg.wpAnyL_one (i := 9) 0 rfl (by kernel_rfl) (by kernel_rfl) (fun K hK => ?_)
      try simp only [List.getElem_toArray, List.getElem_cons_succ, List.getElem_cons_zero]
      go_simp
      refine hK.out _ _ ?_ (fun hHeld1 => ?_)
      · exact fun _ => bNext (hHeld rfl) ((Below.refl _ _).alloc (Nat.le_refl _) _) (Nat.le_refl _)
      clear hK K
      try simp only [Act.put, List.setIfInBounds_toArray, List.set_cons_zero, List.set_cons_succ]
      refine Stg.wpAnyL_one (i := 10) 1 rfl (by kernel_rfl) (by kernel_rfl) (fun K hK => ?_)
      try simp only [List.getElem_toArray, List.getElem_cons_succ, List.getElem_cons_zero]
      rw [if_pos (by kernel_rfl)]
      refine wp_appI (.tmp 38) (.tmp 43) rfl (r + 1) (.slice wv i wc) g i (by kernel_rfl) (hS.out.ow.kf (KF.of (l := []) (hHeld1 rfl)) (fun q _ => by simp)) (by have := (hHeld1 rfl).size; omega) (q := wr.drew.heap.size) (c := 1) (by kernel_rfl) (by rw [hy.out]; exact blkN_new wr.drew [.int .i64 y] 3) (by omega) ?_
      intro a5 n5 c5 w5 hown5 hn5 hsz5 hgrow5 hor5
      obtain rfl : n5 = i + 1 := hn5
      have hU := hS.out.kf (KF.of (l := []) (hHeld1 rfl))
      refine hK.out _ _ ?_ (fun hHeld2 => ?_)
      · exact fun h => absurd h (by decide)
      clear hK K
      try simp only [Act.put, List.setIfInBounds_toArray, List.set_cons_zero, List.set_cons_succ]
      refine Stg.wpAnyL_free (i := 11) (v := ?_) 1 rfl (by kernel_rfl) (by kernel_rfl) (by kernel_rfl) (by kernel_rfl) (by kernel_rfl) (fun _ _ _ h => h) (Or.inl ⟨by kernel_rfl, ?_⟩) (by assumption) ?_
      rotate_left
      · intro u _
        try simp only [List.getElem_toArray, List.getElem_cons_succ, List.getElem_cons_zero]
        go_simp
        try with_reducible rfl
      try simp only [Act.put, List.setIfInBounds_toArray, List.set_cons_zero, List.set_cons_succ]
      refine Stg.wpAnyL_start (n' := 2) (l' := #[true, true, true, true, true, true, true, true, true, true, true, true, false, false]) (by kernel_rfl) (by kernel_rfl) ?_
      refine Stg.wpAnyL_free (i := 12) (v := ?_) 1 rfl (by kernel_rfl) (by kernel_rfl) (by kernel_rfl) (by kernel_rfl) (by kernel_rfl) (fun _ _ _ h => h) (Or.inl ⟨by kernel_rfl, ?_⟩) (by assumption) ?_
      rotate_left
      · intro u _
        try simp only [List.getElem_toArray, List.getElem_cons_succ, List.getElem_cons_zero]
        go_simp
        try with_reducible rfl
      try simp only [Act.put, List.setIfInBounds_toArray, List.set_cons_zero, List.set_cons_succ]
      refine Stg.wpAnyL_one (i := 13) 2 rfl (by kernel_rfl) (by kernel_rfl) (fun K hK => ?_)
      have hb5 := hU.keepW hgrow5 (own_lt hU.ow)
      have z0 := hb5.f 0
      have z1 := hb5.c 0 _ rfl
      try simp only [List.getElem_toArray, List.getElem_cons_succ, List.getElem_cons_zero]
      go_simp
      refine hK.out _ _ ?_ (fun hHeld3 => ?_)
      · exact fun h => absurd h (by decide)
      clear hK K
      try simp only [Act.put, List.setIfInBounds_toArray, List.set_cons_zero, List.set_cons_succ]
      refine Stg.wpAnyL_done (by kernel_rfl) ?_ _
      try simp only [List.getElem_toArray, List.getElem_cons_succ, List.getElem_cons_zero]
      try simp only [Act.put, List.setIfInBounds_toArray, List.set_cons_zero, List.set_cons_succ]
      refine NoPanic.normal ?_
      have hS6 := Lib.hid (hU.appW hown5 hgrow5 hor5)
      have hK6 := Lib.hid (((hK.out.trans ((hHeld1 rfl).mono (by omega))).grown hgrow5 (by have := (hHeld1 rfl).size; omega) (fun q e => by have := (hU.ow.lt e).1; omega)).setCell (p := ⟨r, 0, none⟩) (Nat.le_refl _) (.slice a5 (i + 1) c5))
      clear z0 z1 hb5 hU hown5 hgrow5 hor5 hsz5 b0 x0 hHeld hS hK
      go_upto_region 10 with fail
      generalize w5.setCell ⟨r, 0, none⟩ (.slice a5 (i + 1) c5) = w6 at hS6 hK6 ⊢
      have x0 := (hK6.out.cell (p := ⟨b, off + i, none⟩) hbr).trans (hc.out i hlt)
      rw [hy.out] at x0
      have b1 := hS6.out.b.c 1 _ rfl
      refine wp_region_noPanic ?_
      refine Stg.wp_region_L [12] (Vr.SB w6) (by kernel_rfl) (fun _ => (Below.refl _ _).drew) (fun hHeld => ?_)
      refine Stg.wpAnyL_start (n' := 13) (l' := #[false, false, false, false, false, false, false, false, false, false, false, false, false]) (by kernel_rfl) (by kernel_rfl) ?_
      refine Stg.wpAnyL_free (i := 0) (v := ?_) 0 rfl (by kernel_rfl) (by kernel_rfl) (by kernel_rfl) (by kernel_rfl) (by kernel_rfl) (fun _ _ _ h => h) (Or.inl ⟨by kernel_rfl, ?_⟩) (by assumption) ?_
      rotate_left
      · intro u _
        try simp only [List.getElem_toArray, List.getElem_cons_succ, List.getElem_cons_zero]
        go_simp
        try with_reducible rfl
      try simp only [Act.put, List.setIfInBounds_toArray, List.set_cons_zero, List.set_cons_succ]
      refine Stg.wpAnyL_free (i := 1) (v := ?_) 0 rfl (by kernel_rfl) (by kernel_rfl) (by kernel_rfl) (by kernel_rfl) (by kernel_rfl) (fun _ _ _ h => h) (Or.inl ⟨by kernel_rfl, ?_⟩) (by assumption) ?_
      rotate_left
      · intro u _
        try simp only [List.getElem_toArray, List.getElem_cons_succ, List.getElem_cons_zero]
        go_simp
        try with_reducible rfl
      try simp only [Act.put, List.setIfInBounds_toArray, List.set_cons_zero, List.set_cons_succ]
      refine Stg.wpAnyL_free (i := 2) (v := ?_) 0 rfl (by kernel_rfl) (by kernel_rfl) (by kernel_rfl) (by kernel_rfl) (by kernel_rfl) (fun _ _ _ h => h) (Or.inl ⟨by kernel_rfl, ?_⟩) (by assumption) ?_
      rotate_left
      · intro u _
        try simp only [List.getElem_toArray, List.getElem_cons_succ, List.getElem_cons_zero]
        go_simp
        try with_reducible rfl
      try simp only [Act.put, List.setIfInBounds_toArray, List.set_cons_zero, List.set_cons_succ]
      refine Stg.wpAnyL_start (n' := 10) (l' := #[true, true, true, false, false, false, false, false, false, false, false, false, false]) (by kernel_rfl) (by kernel_rfl) ?_
      refine Stg.wpAnyL_free (i := 3) (v := ?_) 0 rfl (by kernel_rfl) (by kernel_rfl) (by kernel_rfl) (by kernel_rfl) (by kernel_rfl) (fun _ _ _ h => h) (Or.inl ⟨by kernel_rfl, ?_⟩) (by assumption) ?_
      rotate_left
      · intro u _
        try simp only [List.getElem_toArray, List.getElem_cons_succ, List.getElem_cons_zero]
        go_simp
        try with_reducible rfl
      try simp only [Act.put, List.setIfInBounds_toArray, List.set_cons_zero, List.set_cons_succ]
      refine Stg.wpAnyL_take (i := 4) (v := ?_) [9, 10, 11, 12] 0 rfl (by kernel_rfl) (by kernel_rfl) (by kernel_rfl) (by kernel_rfl) (by kernel_rfl) (fun _ _ _ h => h) (Or.inl ⟨by kernel_rfl, ?_⟩) (by assumption) ?_
      rotate_left
      · intro u hSu
        skip
        have sB := hSu rfl
        have y0 := cellB sB x0
        have y1 := cellB sB b1
        try simp only [List.getElem_toArray, List.getElem_cons_succ, List.getElem_cons_zero]
        go_simp
        try with_reducible rfl
      try simp only [Act.put, List.setIfInBounds_toArray, List.set_cons_zero, List.set_cons_succ]
      refine Stg.wpAnyL_free (i := 5) (v := ?_) 0 rfl (by kernel_rfl) (by kernel_rfl) (by kernel_rfl) (by kernel_rfl) (by kernel_rfl) (fun _ _ _ h => h) (Or.inl ⟨by kernel_rfl, ?_⟩) (by assumption) ?_
      rotate_left
      · intro u _
        try simp only [List.getElem_toArray, List.getElem_cons_succ, List.getElem_cons_zero]
        go_simp
        try with_reducible rfl
      try simp only [Act.put, List.setIfInBounds_toArray, List.set_cons_zero, List.set_cons_succ]
      refine Stg.wpAnyL_start (n' := 7) (l' := #[true, true, true, true, true, true, false, false, false, false, false, false, false]) (by kernel_rfl) (by kernel_rfl) ?_
      refine Stg.wpAnyL_free (i := 6) (v := ?_) 0 rfl (by kernel_rfl) (by kernel_rfl) (by kernel_rfl) (by kernel_rfl) (by kernel_rfl) (fun _ _ _ h => h) (Or.inl ⟨by kernel_rfl, ?_⟩) (by assumption) ?_
      rotate_left
      · intro u _
        try simp only [List.getElem_toArray, List.getElem_cons_succ, List.getElem_cons_zero]
        go_simp
        try with_reducible rfl
      try simp only [Act.put, List.setIfInBounds_toArray, List.set_cons_zero, List.set_cons_succ]
      refine Stg.wpAnyL_free (i := 7) (v := ?_) 0 rfl (by kernel_rfl) (by kernel_rfl) (by kernel_rfl) (by kernel_rfl) (by kernel_rfl) (fun _ _ _ h => h) (Or.inl ⟨by kernel_rfl, ?_⟩) (by assumption) ?_
      rotate_left
      · intro u _
        try simp only [List.getElem_toArray, List.getElem_cons_succ, List.getElem_cons_zero]
        go_simp
        try with_reducible rfl
      try simp only [Act.put, List.setIfInBounds_toArray, List.set_cons_zero, List.set_cons_succ]
      refine Stg.wpAnyL_take (i := 8) (v := ?_) [9, 10, 11, 12] 0 rfl (by kernel_rfl) (by kernel_rfl) (by kernel_rfl) (by kernel_rfl) (by kernel_rfl) (fun _ _ _ h => h) (Or.inl ⟨by kernel_rfl, ?_⟩) (by assumption) ?_
      rotate_left
      · intro u hSu
        skip
        have sB := hSu rfl
        have y0 := cellB sB x0
        have y1 := cellB sB b1
        try simp only [List.getElem_toArray, List.getElem_cons_succ, List.getElem_cons_zero]
        go_simp
        try with_reducible rfl
      try simp only [Act.put, List.setIfInBounds_toArray, List.set_cons_zero, List.set_cons_succ]
      refine Stg.wpAnyL_start (n' := 4) (l' := #[true, true, true, true, true, true, true, true, true, false, false, false, false]) (by kernel_rfl) (by kernel_rfl) ?_
      refine Stg.wpAnyL_free (i := 9) (v := ?_) 0 rfl (by kernel_rfl) (by kernel_rfl) (by kernel_rfl) (by kernel_rfl) (by kernel_rfl) (fun _ _ _ h => h) (Or.inl ⟨by kernel_rfl, ?_⟩) (by assumption) ?_
      rotate_left
      · intro u _
        try simp only [List.getElem_toArray, List.getElem_cons_succ, List.getElem_cons_zero]
        go_simp
        try with_reducible rfl
      try simp only [Act.put, List.setIfInBounds_toArray, List.set_cons_zero, List.set_cons_succ]
      refine Stg.wpAnyL_free (i := 10) (v := ?_) 0 rfl (by kernel_rfl) (by kernel_rfl) (by kernel_rfl) (by kernel_rfl) (by kernel_rfl) (fun _ _ _ h => h) (Or.inl ⟨by kernel_rfl, ?_⟩) (by assumption) ?_
      rotate_left
      · intro u _
        try simp only [List.getElem_toArray, List.getElem_cons_succ, List.getElem_cons_zero]
        go_simp
        try with_reducible rfl
      try simp only [Act.put, List.setIfInBounds_toArray, List.set_cons_zero, List.set_cons_succ]
      refine Stg.wpAnyL_free (i := 11) (v := ?_) 0 rfl (by kernel_rfl) (by kernel_rfl) (by kernel_rfl) (by kernel_rfl) (by kernel_rfl) (fun _ _ _ h => h) (Or.inl ⟨by kernel_rfl, ?_⟩) (by assumption) ?_
      rotate_left
      · intro u _
        try simp only [List.getElem_toArray, List.getElem_cons_succ, List.getElem_cons_zero]
        go_simp
        try with_reducible rfl
      try simp only [Act.put, List.setIfInBounds_toArray, List.set_cons_zero, List.set_cons_succ]
      refine Stg.wpAnyL_start (n' := 1) (l' := #[true, true, true, true, true, true, true, true, true, true, true, true, false]) (by kernel_rfl) (by kernel_rfl) ?_
      refine Stg.wpAnyL_one (i := 12) 1 rfl (by kernel_rfl) (by kernel_rfl) (fun K hK => ?_)
      have z0 := (hS6.out.kf (KF.of (l := []) (hHeld rfl))).b.f 1
      have z1 := (hS6.out.kf (KF.of (l := []) (hHeld rfl))).b.c 1 _ rfl
      try simp only [List.getElem_toArray, List.getElem_cons_succ, List.getElem_cons_zero]
      go_simp
      refine hK.out _ _ ?_ (fun hHeld1 => ?_)
      · exact fun h => absurd h (by decide)
      clear hK K
      try simp only [Act.put, List.setIfInBounds_toArray, List.set_cons_zero, List.set_cons_succ]
      refine Stg.wpAnyL_done (by kernel_rfl) ?_ _
      try simp only [List.getElem_toArray, List.getElem_cons_succ, List.getElem_cons_zero]
      try simp only [Act.put, List.setIfInBounds_toArray, List.set_cons_zero, List.set_cons_succ]
      refine NoPanic.normal ?_
      have hS7 := Lib.hid ((hS6.out.setS (s + y)).kf (KF.of (l := []) (Below.refl _ _).drew))
      have hK7 := Lib.hid ((hK6.out.setCell (p := ⟨r, 1, none⟩) (Nat.le_refl _) (.int .i64 (s + y))).drew)
      clear z0 z1 hS6 hK6 x0 b1 hHeld
      go_upto_region 11 with fail
      generalize (w6.setCell ⟨r, 1, none⟩ (.int .i64 (s + y))).drew = w7 at hS7 hK7 ⊢
      have b4 := hS7.out.b.c 4 _ rfl
      have ha := (Below.refl w7.heap.size w7).alloc (Nat.le_refl _) (.cells #[.int .i64 0] 3)
      have hU := Lib.hid (hS7.out.kf (KF.of (l := []) ha))
      have hbk := Lib.hid (blkN_new w7 [.int .i64 0] 3)
      have hrl7 := hS7.out.b.l
      have hszA := Lib.hid (show r + 1 ≤ (w7.alloc (.cells #[.int .i64 0] 3)).heap.size by simp; omega)
      have hKA := Lib.hid (hK7.out.alloc (by omega) (.cells #[.int .i64 0] 3))
      clear ha hS7 hK7
      go_upto_region 12 with (at_builtin; refine wpList_appI rfl _ _ rfl (r + 1) (.slice sv i sc) nz i (by rfl) hU.out.os hszA.out (by rfl) hbk.out (by omega) ?_; intro a8 n8 c8 w8 hown8 hn8 hsz8 hgrow8 hor8; obtain rfl : n8 = i + 1 := hn8; have hb8 := hU.out.keepW hgrow8 (own_lt hU.out.os); have z0 := hb8.f 4; have z1 := hb8.c 4 _ rfl; have hS8 := Lib.hid (hU.out.appS hown8 hgrow8 hor8); have hK8 := Lib.hid (((hKA.out).grown hgrow8 (by have := hszA.out; omega) (fun q e => by have := (hU.out.os.lt e).1; omega)).setCell (p := ⟨r, 4, none⟩) (Nat.le_refl _) (.slice a8 (i + 1) c8)); clear hb8 hown8 hgrow8 hor8 hsz8 hbk b4)
      clear z0 z1 hU hKA hszA
      generalize w8.setCell ⟨r, 4, none⟩ (.slice a8 (i + 1) c8) = w9 at hS8 hK8 ⊢
      have b5 := hS8.out.b.c 5 _ rfl
      have ha := (Below.refl w9.heap.size w9).alloc (Nat.le_refl _) (.cells #[.bool false] 4)
      have hU := Lib.hid (hS8.out.kf (KF.of (l := []) ha))
      have hbk := Lib.hid (blkN_new w9 [.bool false] 4)
      have hrl9 := hS8.out.b.l
      have hszA := Lib.hid (show r + 1 ≤ (w9.alloc (.cells #[.bool false] 4)).heap.size by simp; omega)
      have hKA := Lib.hid (hK8.out.alloc (by omega) (.cells #[.bool false] 4))
      clear ha hS8 hK8
      go_wp2_with (at_builtin; refine wpList_appB rfl _ _ rfl (r + 1) (.slice dv i dc) nof i (by rfl) hU.out.od hszA.out (by rfl) hbk.out (by omega) ?_; intro a10 n10 c10 w10 hown10 hn10 hsz10 hgrow10 hor10; obtain rfl : n10 = i + 1 := hn10; have hb10 := hU.out.keepW hgrow10 (ownb_lt hU.out.od); have z0 := hb10.f 5; have z1 := hb10.c 5 _ rfl; have hS10 := Lib.hid (hU.out.appD hown10 hgrow10 hor10); have hK10 := Lib.hid (((hKA.out).grown hgrow10 (by have := hszA.out; omega) (fun q e => by have := (hU.out.od.lt e).1; omega)).setCell (p := ⟨r, 5, none⟩) (Nat.le_refl _) (.slice a10 (i + 1) c10)); clear hb10 hown10 hgrow10 hor10 hsz10 hbk b5)
      go_roundw
      case rel => exact ⟨i + 1, a5, c5, a8, c8, a10, c10, by go_num, hlt, Lib.hid (by rw [hs2.out, hs.out, hy.out]; exact hS10.out), hK10⟩
      case measure => simp [intOf]; omega
    · obtain rfl : i = N := by omega
      obtain ⟨wb, rfl, hwb, bW⟩ := hS.out.ow.blk (by omega)
      obtain ⟨sb, rfl, hsb, bS⟩ := hS.out.os.blk (by omega)
      obtain ⟨db, rfl, hdb, bD⟩ := hS.out.od.blk (by omega)
      have d1 : wb ≠ sb := fun e => hS.out.d1 wb rfl (by rw [e]; rfl)
      have d2 : wb ≠ db := fun e => hS.out.d2 wb rfl (by rw [e]; rfl)
      have d3 : sb ≠ db := fun e => hS.out.d3 sb rfl (by rw [e]; rfl)
      have hb := hS.out.b
      have hrl := hb.l
      have hnew := Lib.hid (rnewF_ok i wr h1 h8)
      replace bW := Lib.hid bW
      replace bS := Lib.hid bS
      replace bD := Lib.hid bD
      replace hb := Lib.hid hb
      have hwl := bW.out.l
      have hsl := bS.out.l
      have hdl := bD.out.l
      clear hS
      go_wp2_with fail
      refine hnew.out.mono ?_
      rintro e w3 ⟨a3, g3, c3, rfl, T3, hg3, hb3⟩
      obtain rfl := T3.ha (by show 0 < i; omega)
      obtain ⟨hg3, hz3⟩ := hg3 (by show 0 < i; omega)
      replace T3 : TagsAt w3 (some ⟨g3, 0, none⟩) g3 0 i (fun _ => 0) (fun _ => 0) := T3
      have hr3 := hb.out.bel hb3
      have z0 := hr3.f 2
      have z1 := hr3.f 3
      have z2 := hr3.c 2 _ rfl
      have z3 := hr3.c 3 _ rfl
      have hRF : RowKit.Hid (RF ((w3.setCell ⟨r, 2, none⟩ (.int .i64 0)).setCell ⟨r, 3, none⟩ (.slice (some ⟨g3, 0, none⟩) i c3)) ⟨r, wb, wc, sb, sc, db, dc⟩ g3 c3 i (sumW g i) 0 g nz nof nz nz) := Lib.hid
        ⟨(hr3.set (i := 2) (by simp) (.int .i64 0)).set (i := 3) (by simp) _, ((bW.out.bel hb3).other (by omega) _).other (by omega) _, ((bS.out.bel hb3).other (by omega) _).other (by omega) _, ((bD.out.bel hb3).other (by omega) _).other (by omega) _, (T3.set_other (fun _ => by omega) _).set_other (fun _ => by omega) _,
          fun o => (World.frozen?_setCell _ _ _ _).trans ((World.frozen?_setCell _ _ _ _).trans (hz3 o)), by show r ≠ wb; omega, by show r ≠ sb; omega, by show r ≠ db; omega, by show r ≠ g3; omega, d1, d2, by show wb ≠ g3; omega, d3, by show sb ≠ g3; omega, by show db ≠ g3; omega, h1, h8⟩
      have hKF := Lib.hid (((hK.out.trans (hb3.mono (by omega))).setCell (p := ⟨r, 2, none⟩) (Nat.le_refl _) (.int .i64 0)).setCell (p := ⟨r, 3, none⟩) (Nat.le_refl _) (.slice (some ⟨g3, 0, none⟩) i c3))
      have hrr := hr.out
      clear hr3 T3 hz3 hb3 bW bS bD hb hnew
      go_wp2_with fail
      exact bodyPost_ret (v := .tuple #[.pointer (some ⟨r, 0, none⟩), .int .i64 0]) (by simp [results, Try.results14, go_sem]) rfl ⟨⟨r, wb, wc, sb, sc, db, dc⟩, g3, c3, rfl, hRF.out, by show w.heap.size ≤ r; omega, by show w.heap.size ≤ wb; omega, by show w.heap.size ≤ sb; omega, by show w.heap.size ≤ db; omega, by omega, by rw [hrr]; exact hKF.out⟩
end Go.Proofs.Ytbbcongfaoopcaa
namespace Go.Proofs.Ytbbcongfaoopcaa
open Go.ChangeShapes Go.WideShapes Go.ChangeAt Go.RowKit Go.Maps
set_option linter.unusedVariables false
set_option linter.unusedSimpArgs false
open BigFrame Pk Fq Vr Fa

set_option maxRecDepth 100000 in
set_option maxHeartbeats 4000000 in
theorem rfnew_len (w : World) (a : Option Addr) (N c : Nat) (h : N < 1 ∨ 8 < N) :
    Calls Try.prog 14 #[.slice a N c] w (NoNew w) := by
  by_cases k1 : (N : Int) < 1
  · clear h
    go_enter Try.func14, Try.ntmps14
    go_wp2_with fail
    exact bodyPost_ret (v := .tuple #[.pointer none, .int .i64 2]) (by simp [results, Try.results14, go_sem]) rfl ⟨rfl, Below.refl _ _⟩
  · have k2 : (8 : Int) < (N : Int) := by omega
    clear h
    go_enter Try.func14, Try.ntmps14
    go_wp2_with fail
    exact bodyPost_ret (v := .tuple #[.pointer none, .int .i64 2]) (by simp [results, Try.results14, go_sem]) rfl ⟨rfl, Below.refl _ _⟩

set_option maxRecDepth 100000 in
set_option maxHeartbeats 8000000 in
theorem rfnew_bad (w : World) (b off N c : Nat) (g : Nat → Int) (h1 : 1 ≤ N) (h8 : N ≤ 8) (hb : b < w.heap.size) (hc : ∀ i, i < N → w.cell? ⟨b, off + i, none⟩ = some (.int .i64 (g i))) (m : Nat) (hm : m < N) (hg : ∀ i, i < m → 1 ≤ g i ∧ g i ≤ 16) (hbad : g m < 1 ∨ 16 < g m) :
    Calls Try.prog 14 #[.slice (some ⟨b, off, none⟩) N c] w (NoNew w) := by
  have hN1 : ¬ (N : Int) < 1 := by omega
  have hN8 : ¬ (8 : Int) < (N : Int) := by omega
  replace hc := Lib.hid hc
  replace hg := Lib.hid hg
  replace hbad := Lib.hid hbad
  have fb := blkN_new w [.slice none 0 0, .int .i64 0, .int .i64 0, .slice none 0 0, .slice none 0 0, .slice none 0 0] 54
  have hB0 := (Below.refl w.heap.size w).alloc (Nat.le_refl _) (.cells #[.slice none 0 0, .int .i64 0, .int .i64 0, .slice none 0 0, .slice none 0 0, .slice none 0 0] 54)
  go_enter Try.func14, Try.ntmps14
  go_upto_region 4 with fail
  generalize hW1 : w.alloc (.cells #[.slice none 0 0, .int .i64 0, .int .i64 0, .slice none 0 0, .slice none 0 0, .slice none 0 0] 54) = W1
  replace fb : Blk W1 w.heap.size [.slice none 0 0, .int .i64 0, .int .i64 0, .slice none 0 0, .slice none 0 0, .slice none 0 0] := by rw [← hW1]; exact fb
  rw [hW1] at hB0
  clear hW1
  obtain ⟨r, hr⟩ : ∃ r, RowKit.Hid (w.heap.size = r) := ⟨_, Lib.hid rfl⟩
  rw [hr.out] at fb ⊢
  have hN0 : RowKit.Hid (NS W1 r 0 0 0 g (sumW g 0) none 0 none 0 none 0) := Lib.hid ⟨fb, OwnI.nil _ _ _, OwnI.nil _ _ _, OwnB.nil _ _ _, (fun q e => by cases e), (fun q e => by cases e), (fun q e => by cases e)⟩
  replace hB0 := Lib.hid hB0
  clear fb
  go_wp2_with fail
  go_loopw [2, 3, 5] (fun _ _ s5 wr => ∃ (i : Nat) (wv : Option Addr) (wc : Nat) (sv : Option Addr) (sc : Nat) (dv : Option Addr) (dc : Nat), s5 = .int .i64 (i : Nat) ∧ i ≤ m ∧ RowKit.Hid (NS wr r i i i g (sumW g i) wv wc sv sc dv dc) ∧ RowKit.Hid (Below r w wr)) (fun _ _ s5 _ => N - (intOf s5).toNat)
  case atStart => exact ⟨0, none, 0, none, 0, none, 0, rfl, Nat.zero_le _, hN0, Lib.hid (by rw [← hr.out]; exact hB0.out)⟩
  case round =>
    obtain ⟨i, wv, wc, sv, sc, dv, dc, rfl, hi, hS, hK⟩ := hrel
    have ii : (i : Int) ≤ (N : Int) := by omega
    by_cases hlt : i < m
    · have ii1 : (i : Int) < (N : Int) := by omega
      have hbr : b < r := by rw [← hr.out]; exact hb
      have x0 := (hK.out.cell (p := ⟨b, off + i, none⟩) hbr).trans (hc.out i (by omega))
      have hgi := hg.out i hlt
      have sb := sumW_b hg.out i (by omega)
      have hs2 := Lib.hid (show sumW g (i + 1) = sumW g i + g i from rfl)
      obtain ⟨y, hy⟩ : ∃ y, RowKit.Hid (g i = y) := ⟨_, Lib.hid rfl⟩
      obtain ⟨s, hs⟩ : ∃ s, RowKit.Hid (sumW g i = s) := ⟨_, Lib.hid rfl⟩
      rw [hy.out] at x0 hgi
      rw [hs.out] at sb hS
      obtain ⟨g1, g2⟩ := hgi
      obtain ⟨s3, s4⟩ := sb
      have g3 : ¬ y < 1 := by omega
      have g4 : ¬ 16 < y := by omega
      have hwrap : IntKind.i64.wrap (s + y) = s + y := IntWalk.i64_in _ (by omega)
      have b0 := hS.out.b.c 0 _ rfl
      have hrl := hS.out.b.l
      go_upto_region 9 with fail
      refine wp_region_noPanic ?_
      refine Stg.wp_region_L [10, 13] (Vr.SB wr) (by kernel_rfl) (fun _ => (Below.refl _ _).drew) (fun hHeld => ?_)
      refine Stg.wpAnyL_start (n' := 14) (l' := #[false, false, false, false, false, false, false, false, false, false, false, false, false, false]) (by kernel_rfl) (by kernel_rfl) ?_
      refine Stg.wpAnyL_free (i := 0) (v := ?_) 0 rfl (by kernel_rfl) (by kernel_rfl) (by kernel_rfl) (by kernel_rfl) (by kernel_rfl) (fun _ _ _ h => h) (Or.inl ⟨by kernel_rfl, ?_⟩) (by assumption) ?_
      rotate_left
      · intro u _
        try simp only [List.getElem_toArray, List.getElem_cons_succ, List.getElem_cons_zero]
        go_simp
        try with_reducible rfl
      try simp only [Act.put, List.setIfInBounds_toArray, List.set_cons_zero, List.set_cons_succ]
      refine Stg.wpAnyL_free (i := 1) (v := ?_) 0 rfl (by kernel_rfl) (by kernel_rfl) (by kernel_rfl) (by kernel_rfl) (by kernel_rfl) (fun _ _ _ h => h) (Or.inl ⟨by kernel_rfl, ?_⟩) (by assumption) ?_
      rotate_left
      · intro u _
        try simp only [List.getElem_toArray, List.getElem_cons_succ, List.getElem_cons_zero]
        go_simp
        try with_reducible rfl
      try simp only [Act.put, List.setIfInBounds_toArray, List.set_cons_zero, List.set_cons_succ]
      refine Stg.wpAnyL_free (i := 2) (v := ?_) 0 rfl (by kernel_rfl) (by kernel_rfl) (by kernel_rfl) (by kernel_rfl) (by kernel_rfl) (fun _ _ _ h => h) (Or.inl ⟨by kernel_rfl, ?_⟩) (by assumption) ?_
      rotate_left
      · intro u _
        try simp only [List.getElem_toArray, List.getElem_cons_succ, List.getElem_cons_zero]
        go_simp
        try with_reducible rfl
      try simp only [Act.put, List.setIfInBounds_toArray, List.set_cons_zero, List.set_cons_succ]
      refine Stg.wpAnyL_start (n' := 11) (l' := #[true, true, true, false, false, false, false, false, false, false, false, false, false, false]) (by kernel_rfl) (by kernel_rfl) ?_
      refine Stg.wpAnyL_free (i := 3) (v := ?_) 0 rfl (by kernel_rfl) (by kernel_rfl) (by kernel_rfl) (by kernel_rfl) (by kernel_rfl) (fun _ _ _ h => h) (Or.inl ⟨by kernel_rfl, ?_⟩) (by assumption) ?_
      rotate_left
      · intro u _
        try simp only [List.getElem_toArray, List.getElem_cons_succ, List.getElem_cons_zero]
        go_simp
        try with_reducible rfl
      try simp only [Act.put, List.setIfInBounds_toArray, List.set_cons_zero, List.set_cons_succ]
      refine Stg.wpAnyL_take (i := 4) (v := ?_) [10, 11, 12, 13] 0 rfl (by kernel_rfl) (by kernel_rfl) (by kernel_rfl) (by kernel_rfl) (by kernel_rfl) (fun _ _ _ h => h) (Or.inl ⟨by kernel_rfl, ?_⟩) (by assumption) ?_
      rotate_left
      · intro u hSu
        skip
        have sB := hSu rfl
        have y0 := cellB sB x0
        have y1 := cellB sB b0
        try simp only [List.getElem_toArray, List.getElem_cons_succ, List.getElem_cons_zero]
        go_simp
        try with_reducible rfl
      try simp only [Act.put, List.setIfInBounds_toArray, List.set_cons_zero, List.set_cons_succ]
      refine Stg.wpAnyL_free (i := 5) (v := ?_) 0 rfl (by kernel_rfl) (by kernel_rfl) (by kernel_rfl) (by kernel_rfl) (by kernel_rfl) (fun _ _ _ h => h) (Or.inl ⟨by kernel_rfl, ?_⟩) (by assumption) ?_
      rotate_left
      · intro u _
        try simp only [List.getElem_toArray, List.getElem_cons_succ, List.getElem_cons_zero]
        go_simp
        try with_reducible rfl
      try simp only [Act.put, List.setIfInBounds_toArray, List.set_cons_zero, List.set_cons_succ]
      refine Stg.wpAnyL_start (n' := 8) (l' := #[true, true, true, true, true, true, false, false, false, false, false, false, false, false]) (by kernel_rfl) (by kernel_rfl) ?_
      refine Stg.wpAnyL_free (i := 6) (v := ?_) 0 rfl (by kernel_rfl) (by kernel_rfl) (by kernel_rfl) (by kernel_rfl) (by kernel_rfl) (fun _ _ _ h => h) (Or.inl ⟨by kernel_rfl, ?_⟩) (by assumption) ?_
      rotate_left
      · intro u _
        try simp only [List.getElem_toArray, List.getElem_cons_succ, List.getElem_cons_zero]
        go_simp
        try with_reducible rfl
      try simp only [Act.put, List.setIfInBounds_toArray, List.set_cons_zero, List.set_cons_succ]
      refine Stg.wpAnyL_free (i := 7) (v := ?_) 0 rfl (by kernel_rfl) (by kernel_rfl) (by kernel_rfl) (by kernel_rfl) (by kernel_rfl) (fun _ _ _ h => h) (Or.inl ⟨by kernel_rfl, ?_⟩) (by assumption) ?_
      rotate_left
      · intro u _
        try simp only [List.getElem_toArray, List.getElem_cons_succ, List.getElem_cons_zero]
        go_simp
        try with_reducible rfl
      try simp only [Act.put, List.setIfInBounds_toArray, List.set_cons_zero, List.set_cons_succ]
      refine Stg.wpAnyL_take (i := 8) (v := ?_) [9, 10, 11, 12, 13] 0 rfl (by kernel_rfl) (by kernel_rfl) (by kernel_rfl) (by kernel_rfl) (by kernel_rfl) (fun _ _ _ h => h) (Or.inl ⟨by kernel_rfl, ?_⟩) (by assumption) ?_
      rotate_left
      · intro u hSu
        skip
        have sB := hSu rfl
        have y0 := cellB sB x0
        have y1 := cellB sB b0
        try simp only [List.getElem_toArray, List.getElem_cons_succ, List.getElem_cons_zero]
        go_simp
        try with_reducible rfl
      try simp only [Act.put, List.setIfInBounds_toArray, List.set_cons_zero, List.set_cons_succ]
      refine Stg.wpAnyL_start (n' := 5) (l' := #[true, true, true, true, true, true, true, true, true, false, false, false, false, false]) (by kernel_rfl) (by kernel_rfl) ?_
      refine Stg.wpAnyL_one (i := 9) 0 rfl (by kernel_rfl) (by kernel_rfl) (fun K hK => ?_)
      try simp only [List.getElem_toArray, List.getElem_cons_succ, List.getElem_cons_zero]
      go_simp
      refine hK.out _ _ ?_ (fun hHeld1 => ?_)
      · exact fun _ => bNext (hHeld rfl) ((Below.refl _ _).alloc (Nat.le_refl _) _) (Nat.le_refl _)
      clear hK K
      try simp only [Act.put, List.setIfInBounds_toArray, List.set_cons_zero, List.set_cons_succ]
      refine Stg.wpAnyL_one (i := 10) 1 rfl (by kernel_rfl) (by kernel_rfl) (fun K hK => ?_)
      try simp only [List.getElem_toArray, List.getElem_cons_succ, List.getElem_cons_zero]
      rw [if_pos (by kernel_rfl)]
      refine wp_appI (.tmp 38) (.tmp 43) rfl (r + 1) (.slice wv i wc) g i (by kernel_rfl) (hS.out.ow.kf (KF.of (l := []) (hHeld1 rfl)) (fun q _ => by simp)) (by have := (hHeld1 rfl).size; omega) (q := wr.drew.heap.size) (c := 1) (by kernel_rfl) (by rw [hy.out]; exact blkN_new wr.drew [.int .i64 y] 3) (by omega) ?_
      intro a5 n5 c5 w5 hown5 hn5 hsz5 hgrow5 hor5
      obtain rfl : n5 = i + 1 := hn5
      have hU := hS.out.kf (KF.of (l := []) (hHeld1 rfl))
      refine hK.out _ _ ?_ (fun hHeld2 => ?_)
      · exact fun h => absurd h (by decide)
      clear hK K
      try simp only [Act.put, List.setIfInBounds_toArray, List.set_cons_zero, List.set_cons_succ]
      refine Stg.wpAnyL_free (i := 11) (v := ?_) 1 rfl (by kernel_rfl) (by kernel_rfl) (by kernel_rfl) (by kernel_rfl) (by kernel_rfl) (fun _ _ _ h => h) (Or.inl ⟨by kernel_rfl, ?_⟩) (by assumption) ?_
      rotate_left
      · intro u _
        try simp only [List.getElem_toArray, List.getElem_cons_succ, List.getElem_cons_zero]
        go_simp
        try with_reducible rfl
      try simp only [Act.put, List.setIfInBounds_toArray, List.set_cons_zero, List.set_cons_succ]
      refine Stg.wpAnyL_start (n' := 2) (l' := #[true, true, true, true, true, true, true, true, true, true, true, true, false, false]) (by kernel_rfl) (by kernel_rfl) ?_
      refine Stg.wpAnyL_free (i := 12) (v := ?_) 1 rfl (by kernel_rfl) (by kernel_rfl) (by kernel_rfl) (by kernel_rfl) (by kernel_rfl) (fun _ _ _ h => h) (Or.inl ⟨by kernel_rfl, ?_⟩) (by assumption) ?_
      rotate_left
      · intro u _
        try simp only [List.getElem_toArray, List.getElem_cons_succ, List.getElem_cons_zero]
        go_simp
        try with_reducible rfl
      try simp only [Act.put, List.setIfInBounds_toArray, List.set_cons_zero, List.set_cons_succ]
      refine Stg.wpAnyL_one (i := 13) 2 rfl (by kernel_rfl) (by kernel_rfl) (fun K hK => ?_)
      have hb5 := hU.keepW hgrow5 (own_lt hU.ow)
      have z0 := hb5.f 0
      have z1 := hb5.c 0 _ rfl
      try simp only [List.getElem_toArray, List.getElem_cons_succ, List.getElem_cons_zero]
      go_simp
      refine hK.out _ _ ?_ (fun hHeld3 => ?_)
      · exact fun h => absurd h (by decide)
      clear hK K
      try simp only [Act.put, List.setIfInBounds_toArray, List.set_cons_zero, List.set_cons_succ]
      refine Stg.wpAnyL_done (by kernel_rfl) ?_ _
      try simp only [List.getElem_toArray, List.getElem_cons_succ, List.getElem_cons_zero]
      try simp only [Act.put, List.setIfInBounds_toArray, List.set_cons_zero, List.set_cons_succ]
      refine NoPanic.normal ?_
      have hS6 := Lib.hid (hU.appW hown5 hgrow5 hor5)
      have hK6 := Lib.hid (((hK.out.trans ((hHeld1 rfl).mono (by omega))).grown hgrow5 (by have := (hHeld1 rfl).size; omega) (fun q e => by have := (hU.ow.lt e).1; omega)).setCell (p := ⟨r, 0, none⟩) (Nat.le_refl _) (.slice a5 (i + 1) c5))
      clear z0 z1 hb5 hU hown5 hgrow5 hor5 hsz5 b0 x0 hHeld hS hK
      go_upto_region 10 with fail
      generalize w5.setCell ⟨r, 0, none⟩ (.slice a5 (i + 1) c5) = w6 at hS6 hK6 ⊢
      have x0 := (hK6.out.cell (p := ⟨b, off + i, none⟩) hbr).trans (hc.out i (by omega))
      rw [hy.out] at x0
      have b1 := hS6.out.b.c 1 _ rfl
      refine wp_region_noPanic ?_
      refine Stg.wp_region_L [12] (Vr.SB w6) (by kernel_rfl) (fun _ => (Below.refl _ _).drew) (fun hHeld => ?_)
      refine Stg.wpAnyL_start (n' := 13) (l' := #[false, false, false, false, false, false, false, false, false, false, false, false, false]) (by kernel_rfl) (by kernel_rfl) ?_
      refine Stg.wpAnyL_free (i := 0) (v := ?_) 0 rfl (by kernel_rfl) (by kernel_rfl) (by kernel_rfl) (by kernel_rfl) (by kernel_rfl) (fun _ _ _ h => h) (Or.inl ⟨by kernel_rfl, ?_⟩) (by assumption) ?_
      rotate_left
      · intro u _
        try simp only [List.getElem_toArray, List.getElem_cons_succ, List.getElem_cons_zero]
        go_simp
        try with_reducible rfl
      try simp only [Act.put, List.setIfInBounds_toArray, List.set_cons_zero, List.set_cons_succ]
      refine Stg.wpAnyL_free (i := 1) (v := ?_) 0 rfl (by kernel_rfl) (by kernel_rfl) (by kernel_rfl) (by kernel_rfl) (by kernel_rfl) (fun _ _ _ h => h) (Or.inl ⟨by kernel_rfl, ?_⟩) (by assumption) ?_
      rotate_left
      · intro u _
        try simp only [List.getElem_toArray, List.getElem_cons_succ, List.getElem_cons_zero]
        go_simp
        try with_reducible rfl
      try simp only [Act.put, List.setIfInBounds_toArray, List.set_cons_zero, List.set_cons_succ]
      refine Stg.wpAnyL_free (i := 2) (v := ?_) 0 rfl (by kernel_rfl) (by kernel_rfl) (by kernel_rfl) (by kernel_rfl) (by kernel_rfl) (fun _ _ _ h => h) (Or.inl ⟨by kernel_rfl, ?_⟩) (by assumption) ?_
      rotate_left
      · intro u _
        try simp only [List.getElem_toArray, List.getElem_cons_succ, List.getElem_cons_zero]
        go_simp
        try with_reducible rfl
      try simp only [Act.put, List.setIfInBounds_toArray, List.set_cons_zero, List.set_cons_succ]
      refine Stg.wpAnyL_start (n' := 10) (l' := #[true, true, true, false, false, false, false, false, false, false, false, false, false]) (by kernel_rfl) (by kernel_rfl) ?_
      refine Stg.wpAnyL_free (i := 3) (v := ?_) 0 rfl (by kernel_rfl) (by kernel_rfl) (by kernel_rfl) (by kernel_rfl) (by kernel_rfl) (fun _ _ _ h => h) (Or.inl ⟨by kernel_rfl, ?_⟩) (by assumption) ?_
      rotate_left
      · intro u _
        try simp only [List.getElem_toArray, List.getElem_cons_succ, List.getElem_cons_zero]
        go_simp
        try with_reducible rfl
      try simp only [Act.put, List.setIfInBounds_toArray, List.set_cons_zero, List.set_cons_succ]
      refine Stg.wpAnyL_take (i := 4) (v := ?_) [9, 10, 11, 12] 0 rfl (by kernel_rfl) (by kernel_rfl) (by kernel_rfl) (by kernel_rfl) (by kernel_rfl) (fun _ _ _ h => h) (Or.inl ⟨by kernel_rfl, ?_⟩) (by assumption) ?_
      rotate_left
      · intro u hSu
        skip
        have sB := hSu rfl
        have y0 := cellB sB x0
        have y1 := cellB sB b1
        try simp only [List.getElem_toArray, List.getElem_cons_succ, List.getElem_cons_zero]
        go_simp
        try with_reducible rfl
      try simp only [Act.put, List.setIfInBounds_toArray, List.set_cons_zero, List.set_cons_succ]
      refine Stg.wpAnyL_free (i := 5) (v := ?_) 0 rfl (by kernel_rfl) (by kernel_rfl) (by kernel_rfl) (by kernel_rfl) (by kernel_rfl) (fun _ _ _ h => h) (Or.inl ⟨by kernel_rfl, ?_⟩) (by assumption) ?_
      rotate_left
      · intro u _
        try simp only [List.getElem_toArray, List.getElem_cons_succ, List.getElem_cons_zero]
        go_simp
        try with_reducible rfl
      try simp only [Act.put, List.setIfInBounds_toArray, List.set_cons_zero, List.set_cons_succ]
      refine Stg.wpAnyL_start (n' := 7) (l' := #[true, true, true, true, true, true, false, false, false, false, false, false, false]) (by kernel_rfl) (by kernel_rfl) ?_
      refine Stg.wpAnyL_free (i := 6) (v := ?_) 0 rfl (by kernel_rfl) (by kernel_rfl) (by kernel_rfl) (by kernel_rfl) (by kernel_rfl) (fun _ _ _ h => h) (Or.inl ⟨by kernel_rfl, ?_⟩) (by assumption) ?_
      rotate_left
      · intro u _
        try simp only [List.getElem_toArray, List.getElem_cons_succ, List.getElem_cons_zero]
        go_simp
        try with_reducible rfl
      try simp only [Act.put, List.setIfInBounds_toArray, List.set_cons_zero, List.set_cons_succ]
      refine Stg.wpAnyL_free (i := 7) (v := ?_) 0 rfl (by kernel_rfl) (by kernel_rfl) (by kernel_rfl) (by kernel_rfl) (by kernel_rfl) (fun _ _ _ h => h) (Or.inl ⟨by kernel_rfl, ?_⟩) (by assumption) ?_
      rotate_left
      · intro u _
        try simp only [List.getElem_toArray, List.getElem_cons_succ, List.getElem_cons_zero]
        go_simp
        try with_reducible rfl
      try simp only [Act.put, List.setIfInBounds_toArray, List.set_cons_zero, List.set_cons_succ]
      refine Stg.wpAnyL_take (i := 8) (v := ?_) [9, 10, 11, 12] 0 rfl (by kernel_rfl) (by kernel_rfl) (by kernel_rfl) (by kernel_rfl) (by kernel_rfl) (fun _ _ _ h => h) (Or.inl ⟨by kernel_rfl, ?_⟩) (by assumption) ?_
      rotate_left
      · intro u hSu
        skip
        have sB := hSu rfl
        have y0 := cellB sB x0
        have y1 := cellB sB b1
        try simp only [List.getElem_toArray, List.getElem_cons_succ, List.getElem_cons_zero]
        go_simp
        try with_reducible rfl
      try simp only [Act.put, List.setIfInBounds_toArray, List.set_cons_zero, List.set_cons_succ]
      refine Stg.wpAnyL_start (n' := 4) (l' := #[true, true, true, true, true, true, true, true, true, false, false, false, false]) (by kernel_rfl) (by kernel_rfl) ?_
      refine Stg.wpAnyL_free (i := 9) (v := ?_) 0 rfl (by kernel_rfl) (by kernel_rfl) (by kernel_rfl) (by kernel_rfl) (by kernel_rfl) (fun _ _ _ h => h) (Or.inl ⟨by kernel_rfl, ?_⟩) (by assumption) ?_
      rotate_left
      · intro u _
        try simp only [List.getElem_toArray, List.getElem_cons_succ, List.getElem_cons_zero]
        go_simp
        try with_reducible rfl
      try simp only [Act.put, List.setIfInBounds_toArray, List.set_cons_zero, List.set_cons_succ]
      refine Stg.wpAnyL_free (i := 10) (v := ?_) 0 rfl (by kernel_rfl) (by kernel_rfl) (by kernel_rfl) (by kernel_rfl) (by kernel_rfl) (fun _ _ _ h => h) (Or.inl ⟨by kernel_rfl, ?_⟩) (by assumption) ?_
      rotate_left
      · intro u _
        try simp only [List.getElem_toArray, List.getElem_cons_succ, List.getElem_cons_zero]
        go_simp
        try with_reducible rfl
      try simp only [Act.put, List.setIfInBounds_toArray, List.set_cons_zero, List.set_cons_succ]
      refine Stg.wpAnyL_free (i := 11) (v := ?_) 0 rfl (by kernel_rfl) (by kernel_rfl) (by kernel_rfl) (by kernel_rfl) (by kernel_rfl) (fun _ _ _ h => h) (Or.inl ⟨by kernel_rfl, ?_⟩) (by assumption) ?_
      rotate_left
      · intro u _
        try simp only [List.getElem_toArray, List.getElem_cons_succ, List.getElem_cons_zero]
        go_simp
        try with_reducible rfl
      try simp only [Act.put, List.setIfInBounds_toArray, List.set_cons_zero, List.set_cons_succ]
      refine Stg.wpAnyL_start (n' := 1) (l' := #[true, true, true, true, true, true, true, true, true, true, true, true, false]) (by kernel_rfl) (by kernel_rfl) ?_
      refine Stg.wpAnyL_one (i := 12) 1 rfl (by kernel_rfl) (by kernel_rfl) (fun K hK => ?_)
      have z0 := (hS6.out.kf (KF.of (l := []) (hHeld rfl))).b.f 1
      have z1 := (hS6.out.kf (KF.of (l := []) (hHeld rfl))).b.c 1 _ rfl
      try simp only [List.getElem_toArray, List.getElem_cons_succ, List.getElem_cons_zero]
      go_simp
      refine hK.out _ _ ?_ (fun hHeld1 => ?_)
      · exact fun h => absurd h (by decide)
      clear hK K
      try simp only [Act.put, List.setIfInBounds_toArray, List.set_cons_zero, List.set_cons_succ]
      refine Stg.wpAnyL_done (by kernel_rfl) ?_ _
      try simp only [List.getElem_toArray, List.getElem_cons_succ, List.getElem_cons_zero]
      try simp only [Act.put, List.setIfInBounds_toArray, List.set_cons_zero, List.set_cons_succ]
      refine NoPanic.normal ?_
      have hS7 := Lib.hid ((hS6.out.setS (s + y)).kf (KF.of (l := []) (Below.refl _ _).drew))
      have hK7 := Lib.hid ((hK6.out.setCell (p := ⟨r, 1, none⟩) (Nat.le_refl _) (.int .i64 (s + y))).drew)
      clear z0 z1 hS6 hK6 x0 b1 hHeld
      go_upto_region 11 with fail
      generalize (w6.setCell ⟨r, 1, none⟩ (.int .i64 (s + y))).drew = w7 at hS7 hK7 ⊢
      have b4 := hS7.out.b.c 4 _ rfl
      have ha := (Below.refl w7.heap.size w7).alloc (Nat.le_refl _) (.cells #[.int .i64 0] 3)
      have hU := Lib.hid (hS7.out.kf (KF.of (l := []) ha))
      have hbk := Lib.hid (blkN_new w7 [.int .i64 0] 3)
      have hrl7 := hS7.out.b.l
      have hszA := Lib.hid (show r + 1 ≤ (w7.alloc (.cells #[.int .i64 0] 3)).heap.size by simp; omega)
      have hKA := Lib.hid (hK7.out.alloc (by omega) (.cells #[.int .i64 0] 3))
      clear ha hS7 hK7
      go_upto_region 12 with (at_builtin; refine wpList_appI rfl _ _ rfl (r + 1) (.slice sv i sc) nz i (by rfl) hU.out.os hszA.out (by rfl) hbk.out (by omega) ?_; intro a8 n8 c8 w8 hown8 hn8 hsz8 hgrow8 hor8; obtain rfl : n8 = i + 1 := hn8; have hb8 := hU.out.keepW hgrow8 (own_lt hU.out.os); have z0 := hb8.f 4; have z1 := hb8.c 4 _ rfl; have hS8 := Lib.hid (hU.out.appS hown8 hgrow8 hor8); have hK8 := Lib.hid (((hKA.out).grown hgrow8 (by have := hszA.out; omega) (fun q e => by have := (hU.out.os.lt e).1; omega)).setCell (p := ⟨r, 4, none⟩) (Nat.le_refl _) (.slice a8 (i + 1) c8)); clear hb8 hown8 hgrow8 hor8 hsz8 hbk b4)
      clear z0 z1 hU hKA hszA
      generalize w8.setCell ⟨r, 4, none⟩ (.slice a8 (i + 1) c8) = w9 at hS8 hK8 ⊢
      have b5 := hS8.out.b.c 5 _ rfl
      have ha := (Below.refl w9.heap.size w9).alloc (Nat.le_refl _) (.cells #[.bool false] 4)
      have hU := Lib.hid (hS8.out.kf (KF.of (l := []) ha))
      have hbk := Lib.hid (blkN_new w9 [.bool false] 4)
      have hrl9 := hS8.out.b.l
      have hszA := Lib.hid (show r + 1 ≤ (w9.alloc (.cells #[.bool false] 4)).heap.size by simp; omega)
      have hKA := Lib.hid (hK8.out.alloc (by omega) (.cells #[.bool false] 4))
      clear ha hS8 hK8
      go_wp2_with (at_builtin; refine wpList_appB rfl _ _ rfl (r + 1) (.slice dv i dc) nof i (by rfl) hU.out.od hszA.out (by rfl) hbk.out (by omega) ?_; intro a10 n10 c10 w10 hown10 hn10 hsz10 hgrow10 hor10; obtain rfl : n10 = i + 1 := hn10; have hb10 := hU.out.keepW hgrow10 (ownb_lt hU.out.od); have z0 := hb10.f 5; have z1 := hb10.c 5 _ rfl; have hS10 := Lib.hid (hU.out.appD hown10 hgrow10 hor10); have hK10 := Lib.hid (((hKA.out).grown hgrow10 (by have := hszA.out; omega) (fun q e => by have := (hU.out.od.lt e).1; omega)).setCell (p := ⟨r, 5, none⟩) (Nat.le_refl _) (.slice a10 (i + 1) c10)); clear hb10 hown10 hgrow10 hor10 hsz10 hbk b5)
      go_roundw
      case rel => exact ⟨i + 1, a5, c5, a8, c8, a10, c10, by go_num, hlt, Lib.hid (by rw [hs2.out, hs.out, hy.out]; exact hS10.out), hK10⟩
      case measure => simp [intOf]; omega
    · obtain rfl : i = m := by omega
      have ii1 : (i : Int) < (N : Int) := by omega
      have hbr : b < r := by rw [← hr.out]; exact hb
      have x0 := (hK.out.cell (p := ⟨b, off + i, none⟩) hbr).trans (hc.out i hm)
      have hbad := hbad.out
      obtain ⟨y, hy⟩ : ∃ y, g i = y := ⟨_, rfl⟩
      rw [hy] at x0 hbad
      have hrr := hr.out
      have hKF : RowKit.Hid (Below w.heap.size w wr) := Lib.hid (by rw [hrr]; exact hK.out)
      clear hy hS hK
      by_cases y1 : y < 1
      · clear hbad
        go_wp2_with fail
        exact bodyPost_ret (v := .tuple #[.pointer none, .int .i64 2]) (by simp [results, Try.results14, go_sem]) rfl ⟨rfl, hKF.out⟩
      · have y2 : 16 < y := by omega
        clear hbad
        go_wp2_with fail
        exact bodyPost_ret (v := .tuple #[.pointer none, .int .i64 2]) (by simp [results, Try.results14, go_sem]) rfl ⟨rfl, hKF.out⟩
theorem rfnew_c (w : World) (aw : Option Addr) (nw cw : Nat) (dw : List Int) (Wt : IAt w aw nw cw dw) :
    (newOk dw ∧ Calls Try.prog 14 #[.slice aw nw cw] w (NewRF nw (gd dw) w)) ∨ (¬ newOk dw ∧ Calls Try.prog 14 #[.slice aw nw cw] w (NoNew w)) := by
  have hlen := Wt.len
  by_cases hlw : dw.length < 1 ∨ 8 < dw.length
  · exact .inr ⟨fun q => by have := q.1; have := q.2.1; omega, rfnew_len w aw nw cw (by omega)⟩
  · obtain ⟨b, off, rfl, hb, hc⟩ := Wt.row (by omega)
    have hc2 : ∀ i, i < nw → w.cell? ⟨b, off + i, none⟩ = some (.int .i64 (gd dw i)) := fun i hi => hc i _ (gd_at (by omega))
    by_cases hgood : ∀ i, i < nw → 1 ≤ gd dw i ∧ gd dw i ≤ 16
    · exact .inl ⟨⟨by omega, by omega, fun x hx => by
        obtain ⟨i, hi, rfl⟩ := List.getElem_of_mem hx
        have := hgood i (by omega)
        have e := gd_at hi
        rw [List.getElem?_eq_getElem hi] at e
        injection e with e
        rw [e]; exact this⟩, rfnew_ok w b off nw cw (gd dw) (by omega) (by omega) hb hc2 hgood⟩
    · obtain ⟨m, hm, hbad, hmin⟩ := leastBad (fun i => 1 ≤ gd dw i ∧ gd dw i ≤ 16) nw hgood
      exact .inr ⟨fun q => hgood (fun i hi => q.2.2 _ (gd_mem (by omega))), rfnew_bad w b off nw cw (gd dw) (by omega) (by omega) hb hc2 m hm hmin (by omega)⟩
end Go.Proofs.Ytbbcongfaoopcaa
namespace Go.Proofs.Ytbbcongfaoopcaa
open Go.ChangeShapes Go.WideShapes Go.ChangeAt Go.RowKit Go.Maps
set_option linter.unusedVariables false
set_option linter.unusedSimpArgs false
open BigFrame Pk Fq Vr Fa

namespace Fa
open Classical in
noncomputable def pickG (N n : Nat) (ALL : Int) (W h : Nat → Int) (x : Sched) : Picked := if n = N ∧ ∀ i, i < N → headBad (h i) = false then pickX N h (toldN N ALL x.V W x.Z x.D x.S x.F h) else ⟨0, false, x⟩
theorem Inv.pickG {M ALL : Int} {N n : Nat} {W h : Nat → Int} {x : Sched} (H : Inv M ALL x.V N W x.Z x.D x.S x.F) : Inv (M + PM) ALL (pickG N n ALL W h x).x.V N W (pickG N n ALL W h x).x.Z (pickG N n ALL W h x).x.D (pickG N n ALL W h x).x.S (pickG N n ALL W h x).x.F := by
  unfold Fa.pickG
  by_cases c : n = N ∧ ∀ i, i < N → headBad (h i) = false
  · rw [if_pos c]; exact H.pick c.2
  · rw [if_neg c]; exact ⟨H.far.mono (by unfold PM; omega), H.w, H.all, H.z, H.d⟩
end Fa
theorem fpick_g {w : World} {f lb cl tb ct N : Nat} {ALL M : Int} {W : Nat → Int} {x : Sched} (hd : FD w f lb cl tb ct N ALL x.V W x.Z x.D x.S x.F) (H : Inv M ALL x.V N W x.Z x.D x.S x.F) (hM : M ≤ 1000000000000000)
    (a : Option Addr) (b off n c : Nat) (h g : Nat → Int) (T : TagsAt w a b off n h g) (hb : 0 < n → b ≠ f ∧ b ≠ lb) :
    Calls Try.prog 16 #[.pointer (some ⟨f, 0, none⟩), .slice a n c] w (PickQ (pickG N n ALL W h x) tb f lb cl N ALL W w) := by
  unfold pickG
  have n1 := hd.n1
  by_cases hn : n = N
  · subst hn
    by_cases hh : ∀ i, i < n → headBad (h i) = false
    · rw [if_pos ⟨rfl, hh⟩]
      obtain rfl := T.ha (by omega)
      exact fpick_ok hd H hM b off c h g T (hb (by omega)).1 (hb (by omega)).2 hh
    · rw [if_neg (fun q => hh q.2)]
      refine (fpick_bad hd a b off c h g T hh).mono ?_
      rintro e w' ⟨rfl, hB⟩
      exact ⟨tb, ct, rfl, hd.bel hB, .inl rfl, KF.of hB⟩
  · rw [if_neg (fun q => hn q.1)]
    refine (fpick_len hd a n c hn).mono ?_
    rintro e w' ⟨rfl, hB⟩
    exact ⟨tb, ct, rfl, hd.bel hB, .inl rfl, KF.of hB⟩

set_option maxRecDepth 100000 in
set_option maxHeartbeats 4000000 in
theorem rpickF_len {w : World} {B : RB} {tb ct N : Nat} {ALL V : Int} {W Z : Nat → Int} {D : Nat → Bool} {S F : Nat → Int} (hd : RF w B tb ct N ALL V W Z D S F) (a : Option Addr) (n c : Nat) (hn : n ≠ N) :
    Calls Try.prog 17 #[.pointer (some ⟨B.r, 0, none⟩), .slice a n c] w fun e w' => e = .returned (.tuple #[.int .i64 0, .bool false]) ∧ Below w.heap.size w w' := by
  have b0 := hd.b.c 0 _ rfl
  have hn2 : ¬ (n : Int) = (N : Int) := by omega
  clear hd hn
  go_enter Try.func17, Try.ntmps17
  go_wp2_with fail
  exact bodyPost_ret (v := .tuple #[.int .i64 0, .bool false]) (by simp [results, Try.results17, go_sem]) rfl ⟨rfl, Below.refl _ _⟩

set_option maxRecDepth 100000 in
set_option maxHeartbeats 4000000 in
theorem rpickF_bad {w : World} {B : RB} {tb ct N : Nat} {ALL V : Int} {W Z : Nat → Int} {D : Nat → Bool} {S F : Nat → Int} (hd : RF w B tb ct N ALL V W Z D S F) (b off c : Nat) (h g : Nat → Int) (T : TagsAt w (some ⟨b, off, none⟩) b off N h g) (hh : ¬ ∀ i, i < N → headBad (h i) = false) :
    Calls Try.prog 17 #[.pointer (some ⟨B.r, 0, none⟩), .slice (some ⟨b, off, none⟩) N c] w fun e w' => e = .returned (.tuple #[.int .i64 0, .bool false]) ∧ Below w.heap.size w w' := by
  have hN1 : (1 : Int) ≤ (N : Int) := by have := hd.n1; omega
  have hN8 : (N : Int) ≤ 8 := by have := hd.n8; omega
  have b0 := hd.b.c 0 _ rfl
  replace hd := Lib.hid hd
  replace T := Lib.hid T
  replace hh := Lib.hid hh
  go_enter Try.func17, Try.ntmps17
  go_wp2_with fail
  go_loopw [4, 5, 6, 7] (fun _ _ s6 s7 wr => ∃ (i : Nat), s6 = .bool (someR h i) ∧ s7 = .int .i64 (i : Nat) ∧ i ≤ N ∧ wr = w ∧ RowKit.Hid (∀ j, j < i → headBad (h j) = false)) (fun _ _ _ s7 _ => N - (intOf s7).toNat)
  case atStart => exact ⟨0, by rw [someR_zero], rfl, Nat.zero_le _, rfl, Lib.hid (fun j hj => by omega)⟩
  case round =>
    obtain ⟨i, rfl, rfl, hi, rfl, hgs⟩ := hrel
    have ii : (i : Int) ≤ (N : Int) := by omega
    by_cases hlt : i < N
    · have ii1 : (i : Int) < (N : Int) := by omega
      have t0 := T.out.c0 i hlt
      have hsc := Lib.hid (someR_succ h i)
      obtain ⟨y, hy⟩ : ∃ y, h i = y := ⟨_, rfl⟩
      rw [hy] at t0 hsc
      have hyH := Lib.hid hy
      clear hy
      by_cases g3 : y < 0
      · go_wp2_with fail
        exact bodyPost_ret (v := .tuple #[.int .i64 0, .bool false]) (by simp [results, Try.results17, go_sem]) rfl ⟨rfl, Below.refl _ _⟩
      · by_cases g4 : 1500 < y
        · go_wp2_with fail
          exact bodyPost_ret (v := .tuple #[.int .i64 0, .bool false]) (by simp [results, Try.results17, go_sem]) rfl ⟨rfl, Below.refl _ _⟩
        · have hgs2 : RowKit.Hid (∀ j, j < i + 1 → headBad (h j) = false) := Lib.hid (fun j hj => by
            by_cases e : j = i
            · subst e; rw [hyH.out]; unfold headBad; simp; omega
            · exact hgs.out j (by omega))
          cases hsm : someR h i with
          | true =>
            rw [hsm] at hsc
            go_wp2_with fail
            go_roundw
            case rel => exact ⟨i + 1, by rw [hsc.out]; simp, by go_num, hlt, by first | rfl | trivial, hgs2⟩
            case measure => simp [intOf]; omega
          | false =>
            rw [hsm] at hsc
            go_wp2_with fail
            go_roundw
            case rel => exact ⟨i + 1, by rw [hsc.out]; simp, by go_num, hlt, by first | rfl | trivial, hgs2⟩
            case measure => simp [intOf]; omega
    · obtain rfl : i = N := by omega
      exact absurd hgs.out hh.out
theorem rpick_g {w : World} {B : RB} {tb ct N : Nat} {ALL M : Int} {W : Nat → Int} {x : Sched} (hd : RF w B tb ct N ALL x.V W x.Z x.D x.S x.F) (H : Inv M ALL x.V N W x.Z x.D x.S x.F) (hM : M ≤ 1000000000000000)
    (a : Option Addr) (b off n c : Nat) (h g : Nat → Int) (T : TagsAt w a b off n h g) (hb : 0 < n → b ≠ B.r ∧ b ≠ B.sb ∧ b ≠ B.db ∧ b ≠ tb) :
    Calls Try.prog 17 #[.pointer (some ⟨B.r, 0, none⟩), .slice a n c] w (RPickQ (pickG N n ALL W h x) B tb N ALL W w) := by
  unfold pickG
  have n1 := hd.n1
  by_cases hn : n = N
  · subst hn
    obtain rfl := T.ha (by omega)
    by_cases hh : ∀ i, i < n → headBad (h i) = false
    · rw [if_pos ⟨rfl, hh⟩]
      have q := hb (by omega)
      exact rpickF_ok hd H hM b off c h g T q.1 q.2.1 q.2.2.1 q.2.2.2 hh
    · rw [if_neg (fun q => hh q.2)]
      refine (rpickF_bad hd b off c h g T hh).mono ?_
      rintro e w' ⟨rfl, hB⟩
      exact ⟨tb, ct, rfl, hd.bel hB, .inl rfl, KF.of hB⟩
  · rw [if_neg (fun q => hn q.1)]
    refine (rpickF_len hd a n c hn).mono ?_
    rintro e w' ⟨rfl, hB⟩
    exact ⟨tb, ct, rfl, hd.bel hB, .inl rfl, KF.of hB⟩

set_option maxRecDepth 100000 in
set_option maxHeartbeats 4000000 in
theorem virtual_c (V : Int) (a a2 : Option Addr) (b off b2 off2 N c c2 : Nat) (S F : Nat → Int) (w : World) (T : TagsAt w a b off N S F) (T2 : TagsAt w a2 b2 off2 N S F) (hN : N ≤ 1000) :
    Calls Try.prog 18 #[.agg #[.int .i64 V, .slice a N c], .agg #[.int .i64 V, .slice a2 N c2]] w fun e w' => e = .returned (.bool true) ∧ Below w.heap.size w w' := by
  have hB0 : Below w.heap.size w ((w.alloc (.cells #[.int .i64 V, .slice a N c] 50)).alloc (.cells #[.int .i64 V, .slice a2 N c2] 50)) := ((Below.refl _ _).alloc (Nat.le_refl _) _).alloc (by simp) _
  have bx0 := blk_two w (.int .i64 V) (.slice a N c) (.int .i64 V) (.slice a2 N c2) 50 50
  have by0 := blk_new (w.alloc (.cells #[.int .i64 V, .slice a N c] 50)) (.int .i64 V) (.slice a2 N c2) 50
  rw [World.size_alloc] at by0
  replace T := Lib.hid T
  replace T2 := Lib.hid T2
  go_enter Try.func18, Try.ntmps18
  go_upto_region 3 with fail
  generalize (w.alloc (.cells #[.int .i64 V, .slice a N c] 50)).alloc (.cells #[.int .i64 V, .slice a2 N c2] 50) = W1 at bx0 by0 hB0 ⊢
  go_wp2_with fail
  go_loopw [4, 5] (fun _ s3 wr => ∃ kk : Nat, kk ≤ N ∧ s3 = .int .i64 (kk : Nat) ∧ Below W1.heap.size W1 wr) (fun _ s3 _ => N - (intOf s3).toNat)
  case atStart => exact ⟨0, Nat.zero_le _, rfl, Below.refl _ _⟩
  case round =>
    obtain ⟨kk, hkk, rfl, hBr⟩ := hrel
    have p1 := (bx0.bel hBr).c 1 _ rfl
    have q1 := (by0.bel hBr).c 1 _ rfl
    by_cases hlt : kk < N
    · have hltz : (kk : Int) < (N : Int) := by omega
      obtain rfl := T.out.ha (by omega)
      obtain rfl := T2.out.ha (by omega)
      have hBw := bNext hB0 hBr (Nat.le_refl _)
      have x0 := (T.out.bel hBw).c0 kk hlt
      have x1 := (T.out.bel hBw).c1 kk hlt
      have y0 := (T2.out.bel hBw).c0 kk hlt
      have y1 := (T2.out.bel hBw).c1 kk hlt
      clear hBw
      go_wp2_with fail
      go_big_quiet (fail)
      go_wp2_with fail
      go_roundw
      case rel => exact ⟨kk + 1, by omega, by go_num, bDrew hBr nq⟩
      case measure => simp [intOf]; omega
    · have hltz : ¬ (kk : Int) < (N : Int) := by omega
      go_wp2_with fail
      go_ret
      exact ⟨rfl, bNext hB0 hBr (Nat.le_refl _)⟩
end Go.Proofs.Ytbbcongfaoopcaa
namespace Go.Proofs.Ytbbcongfaoopcaa
open Go.ChangeShapes Go.WideShapes Go.ChangeAt Go.RowKit Go.Maps
set_option linter.unusedVariables false
set_option linter.unusedSimpArgs false
open BigFrame Pk Fq Vr Fa

/-- Rows of heads as they came in. -/
structure HsAt (w : World) (a : Option Addr) (b off N : Nat) (A : Nat → Option Addr) (L C B O : Nat → Nat) (Hs G : Nat → Nat → Int) : Prop where
  ha : 0 < N → a = some ⟨b, off, none⟩
  hb : 0 < N → b < w.heap.size
  c0 : ∀ i, i < N → w.cell? ⟨b, off + i, none⟩ = some (.slice (A i) (L i) (C i))
  t : ∀ i, i < N → TagsAt w (A i) (B i) (O i) (L i) (Hs i) (G i)
theorem HsAt.bel {w w' : World} {a : Option Addr} {b off N : Nat} {A : Nat → Option Addr} {L C B O : Nat → Nat} {Hs G : Nat → Nat → Int} (h : HsAt w a b off N A L C B O Hs G) (k : Below w.heap.size w w') : HsAt w' a b off N A L C B O Hs G :=
  ⟨h.ha, fun hn => Nat.lt_of_lt_of_le (h.hb hn) k.size, fun i hi => (k.cell (p := ⟨b, off + i, none⟩) (h.hb (by omega))).trans (h.c0 i hi), fun i hi => (h.t i hi).bel k⟩
structure XT_LLHead where
  a : Option Addr
  b : Nat
  off : Nat
  n : Nat
  c : Nat
  A : Nat → Option Addr
  L : Nat → Nat
  C : Nat → Nat
  B : Nat → Nat
  O : Nat → Nat
  Hs : Nat → Nat → Int
  G : Nat → Nat → Int
def Is_LLHead (w : World) (v : Value) (x : XT_LLHead) : Prop := v = .slice x.a x.n x.c ∧ HsAt w x.a x.b x.off x.n x.A x.L x.C x.B x.O x.Hs x.G
section
variable {H : Type} {enc : TypeId × Value → H} {w : World}
set_option maxRecDepth 100000 in
theorem open_heads {n : Nat} {u : Value} {z : DataW H × List MemPlace} (h : DataW.trod enc Try.prog w 0 (fun _ => true) true n 43 [u] = some z) :
    ∃ a l c b off S F, u = .slice a l c ∧ TagsAt w a b off l S F := by
  have k2 : Try.prog.cellsOf 60 = 2 := by kernel_rfl
  have k1 : Try.prog.cellsOf 3 = 1 := by kernel_rfl
  obtain ⟨a, len, cap, rfl, hl, hm, hrow⟩ := open_rowsN Try.underlying43 h (by rw [k2]; omega)
  rw [k2] at hrow
  by_cases hp : 0 < len
  · obtain ⟨b, off, V, n, rfl, hb, hV⟩ := hrow hp
    have row : ∀ i, i < len → w.cell? ⟨b, off + i * 2, none⟩ = some (.int .i64 (RowKit.intOf ((V i).getD 0 undef))) ∧ w.cell? ⟨b, off + i * 2 + 1, none⟩ = some (.int .i64 (RowKit.intOf ((V i).getD 1 undef))) := fun i hi => by
      obtain ⟨q1, q2, z, q3⟩ := hV i (by omega)
      obtain ⟨x, y, hx⟩ : ∃ x y, V i = [x, y] := by
        match e : V i, q1 with
        | [x, y], _ => exact ⟨x, y, rfl⟩
      rw [hx] at q2 q3
      obtain ⟨_, m, hf⟩ := trod_fields Try.underlying60 q3
      obtain ⟨y0, t0⟩ := hf 0 _ rfl
      obtain ⟨y1, t1⟩ := hf 1 _ rfl
      simp only [k1, List.drop_zero, List.drop_succ_cons, List.take_succ_cons, List.take_zero, List.getElem_toArray, List.getElem_cons_zero, List.getElem_cons_succ] at t0 t1
      obtain ⟨e0, _⟩ := trod_int' Try.underlying3 t0
      obtain ⟨e1, _⟩ := trod_int' Try.underlying3 t1
      have c0 := q2 0 _ rfl
      have c1 := q2 1 _ rfl
      rw [Nat.add_zero] at c0
      rw [← Nat.add_assoc] at c1
      rw [hx]
      exact ⟨c0.trans (congrArg some e0), c1.trans (congrArg some e1)⟩
    exact ⟨_, len, cap, b, off, fun i => RowKit.intOf ((V i).getD 0 undef), fun i => RowKit.intOf ((V i).getD 1 undef), rfl, fun _ => rfl, fun _ => hb, fun i hi => (row i hi).1, fun i hi => (row i hi).2⟩
  · obtain rfl : len = 0 := by omega
    exact ⟨a, 0, cap, 0, 0, fun _ => 0, fun _ => 0, rfl, fun h => absurd h (Nat.lt_irrefl _), fun h => absurd h (Nat.lt_irrefl _), fun i hi => absurd hi (Nat.not_lt_zero _), fun i hi => absurd hi (Nat.not_lt_zero _)⟩
set_option maxRecDepth 100000 in
theorem open_LLHead {r : Reach} {b0 : Nat} {v : Value} {d : DataW H} {p : List MemPlace} (hv : Value.okWide Try.prog w r b0 39 v) (h : DataW.Trod enc Try.prog w 0 (fun _ => true) true 39 v d p) : ∃ x, Is_LLHead w v x := by
  obtain ⟨a0, len0, cap0, rfl⟩ := okWide_slice Try.underlying39 hv
  obtain ⟨fuel, hf⟩ := h
  have k1 : Try.prog.cellsOf 43 = 1 := by kernel_rfl
  obtain ⟨a, len, cap, he, hl, hm, hrow⟩ := open_rowsN (u := .slice a0 len0 cap0) Try.underlying39 hf (by rw [k1]; omega)
  cases he
  rw [k1] at hrow
  by_cases hp : 0 < len0
  · obtain ⟨b, off, V, n, rfl, hb, hV⟩ := hrow hp
    have hE : ∀ i, ∃ q : Option Addr × Nat × Nat × Nat × Nat × (Nat → Int) × (Nat → Int), i < cap0 → w.cell? ⟨b, off + i, none⟩ = some (.slice q.1 q.2.1 q.2.2.1) ∧ TagsAt w q.1 q.2.2.2.1 q.2.2.2.2.1 q.2.1 q.2.2.2.2.2.1 q.2.2.2.2.2.2 := fun i => by
      by_cases hi : i < cap0
      · obtain ⟨q1, q2, z, q3⟩ := hV i hi
        obtain ⟨x, hx⟩ : ∃ x, V i = [x] := List.length_eq_one_iff.1 q1
        rw [hx] at q2 q3
        obtain ⟨a, l, c, bb, oo, S, F, rfl, hI⟩ := open_heads q3
        exact ⟨(a, l, c, bb, oo, S, F), fun _ => ⟨by have := q2 0 _ rfl; simpa using this, hI⟩⟩
      · exact ⟨(none, 0, 0, 0, 0, fun _ => 0, fun _ => 0), fun h => absurd h hi⟩
    obtain ⟨e, he⟩ := Classical.axiomOfChoice hE
    exact ⟨⟨some ⟨b, off, none⟩, b, off, len0, cap0, fun i => (e i).1, fun i => (e i).2.1, fun i => (e i).2.2.1, fun i => (e i).2.2.2.1, fun i => (e i).2.2.2.2.1, fun i => (e i).2.2.2.2.2.1, fun i => (e i).2.2.2.2.2.2⟩, rfl, fun _ => rfl, fun _ => hb, fun i hi => (he i (Nat.lt_of_lt_of_le hi hl)).1, fun i hi => (he i (Nat.lt_of_lt_of_le hi hl)).2⟩
  · obtain rfl : len0 = 0 := by omega
    exact ⟨⟨a0, 0, 0, 0, cap0, fun _ => none, fun _ => 0, fun _ => 0, fun _ => 0, fun _ => 0, fun _ _ => 0, fun _ _ => 0⟩, rfl, fun h => absurd h (Nat.lt_irrefl _), fun h => absurd h (Nat.lt_irrefl _), fun i hi => absurd hi (Nat.not_lt_zero _), fun i hi => absurd hi (Nat.not_lt_zero _)⟩
end
end Go.Proofs.Ytbbcongfaoopcaa
namespace Go.Proofs.Ytbbcongfaoopcaa
open Go.ChangeShapes Go.WideShapes Go.ChangeAt Go.RowKit Go.Maps
set_option linter.unusedVariables false
set_option linter.unusedSimpArgs false
open BigFrame Pk Fq Vr Fa
namespace Fa
/-- Both schedulers side by side. -/
structure PS (w wr : World) (f lb cl : Nat) (B : RB) (N : Nat) (ALL : Int) (W : Nat → Int) (x : Sched) (tb ct rtb rct i : Nat) : Prop where
  fd : FD wr f lb cl tb ct N ALL x.V W x.Z x.D x.S x.F
  rf : RF wr B rtb rct N ALL x.V W x.Z x.D x.S x.F
  inv : Inv ((i : Nat) * PM) ALL x.V N W x.Z x.D x.S x.F
  bel : Below w.heap.size w wr
  ge : w.heap.size ≤ f ∧ w.heap.size ≤ lb ∧ w.heap.size ≤ tb ∧ w.heap.size ≤ B.r ∧ w.heap.size ≤ B.wb ∧ w.heap.size ≤ B.sb ∧ w.heap.size ≤ B.db ∧ w.heap.size ≤ rtb
  s1 : f ≠ B.r ∧ f ≠ B.wb ∧ f ≠ B.sb ∧ f ≠ B.db ∧ f ≠ rtb
  s2 : lb ≠ B.r ∧ lb ≠ B.wb ∧ lb ≠ B.sb ∧ lb ≠ B.db ∧ lb ≠ rtb
  s3 : tb ≠ B.r ∧ tb ≠ B.wb ∧ tb ≠ B.sb ∧ tb ≠ B.db ∧ tb ≠ rtb
theorem noTags (w : World) (a : Option Addr) (S F : Nat → Int) : TagsAt w a 0 0 0 S F := ⟨fun h => absurd h (Nat.lt_irrefl _), fun h => absurd h (Nat.lt_irrefl _), fun i hi => absurd hi (Nat.not_lt_zero _), fun i hi => absurd hi (Nat.not_lt_zero _)⟩
end Fa
@[local go_sem]
theorem neq_bb (b : Bool) (u : World) : Sem.run Try.prog (binOp BinOp.neq 4 (.bool b) (.bool b)) u = .ok (.bool false) u := by cases b <;> rfl

set_option maxRecDepth 100000 in
set_option maxHeartbeats 8000000 in
theorem fpicks_great (w : World) (aw aq : Option Addr) (nw cw nq cq : Nat) (h : 20 < nw ∨ 100 < nq) :
    Calls Try.prog 6 #[.slice aw nw cw, .slice aq nq cq] w fun e w' => e = .returned (.bool true) ∧ Below w.heap.size w w' := by
  by_cases h1 : 20 < nw
  · have h1z : (20 : Int) < (nw : Int) := by omega
    clear h
    go_enter Try.func6, Try.ntmps6
    go_wp2_with fail
    refine (wakes26_c _).mono ?_
    rintro e w3 ⟨rfl, hb⟩
    replace hb := Lib.hid hb
    go_wp2_with fail
    exact bodyPost_ret (v := .bool true) (by simp [results, Try.results6, go_sem]) rfl ⟨rfl, hb.out⟩
  · have h1z : ¬ (20 : Int) < (nw : Int) := by omega
    have h2z : (100 : Int) < (nq : Int) := by omega
    clear h
    go_enter Try.func6, Try.ntmps6
    go_wp2_with fail
    refine (wakes26_c _).mono ?_
    rintro e w3 ⟨rfl, hb⟩
    replace hb := Lib.hid hb
    go_wp2_with fail
    exact bodyPost_ret (v := .bool true) (by simp [results, Try.results6, go_sem]) rfl ⟨rfl, hb.out⟩

set_option maxRecDepth 100000 in
set_option maxHeartbeats 8000000 in
theorem fpicks_no (w : World) (aw aq : Option Addr) (nw cw nq cq : Nat) (dw : List Int) (Wt : IAt w aw nw cw dw) (hw : nw ≤ 20) (hq : nq ≤ 100) (hno : ¬ newOk dw) :
    Calls Try.prog 6 #[.slice aw nw cw, .slice aq nq cq] w fun e w' => e = .returned (.bool true) ∧ Below w.heap.size w w' := by
  have hwz : ¬ (20 : Int) < (nw : Int) := by omega
  have hqz : ¬ (100 : Int) < (nq : Int) := by omega
  have hnew := Lib.hid ((fnew_c w aw nw cw dw Wt).resolve_left (fun q => hno q.1)).2
  have hnew2 := Lib.hid (fun (u : World) (hu : Below w.heap.size w u) => ((rfnew_c u aw nw cw dw (Wt.bel hu)).resolve_left (fun q => hno q.1)).2)
  clear Wt hno
  go_enter Try.func6, Try.ntmps6
  go_wp2_with fail
  refine hnew.out.mono ?_
  rintro e w1 ⟨rfl, hB1⟩
  have hn2 := Lib.hid (hnew2.out w1 hB1)
  replace hB1 := Lib.hid hB1
  clear hnew hnew2
  go_wp2_with fail
  refine hn2.out.mono ?_
  rintro e w2 ⟨rfl, hB2⟩
  have hB2' := Lib.hid (hB1.out.trans (hB2.mono hB1.out.size))
  clear hn2 hB1 hB2
  go_wp2_with fail
  go_loopw [4, 9, 10, 11, 12, 13, 14, 15, 16] (fun _ s9 _ _ _ _ _ _ _ wr => s9 = .int .i64 0 ∧ wr = w2) (fun _ _ _ _ _ _ _ _ _ _ => 0)
  case atStart => exact ⟨rfl, rfl⟩
  case round =>
    obtain ⟨rfl, rfl⟩ := hrel
    by_cases h0 : nq = 0
    · have h0z : (nq : Int) = 0 := by omega
      subst h0
      go_wp2_with fail
      refine (fpick_nil _ none 0 0).mono ?_
      rintro e v1 ⟨rfl, hb⟩
      have TT1 := Lib.hid (hB2'.out.trans (hb.mono hB2'.out.size))
      clear hb
      go_wp2_with fail
      refine (fcopy_nil v1).mono ?_
      rintro e v2 ⟨rfl, rfl⟩
      go_wp2_with fail
      refine (fstate_nil _).mono ?_
      rintro e v3 ⟨rfl, hb⟩
      have TT3 := Lib.hid (TT1.out.trans (hb.mono TT1.out.size))
      clear hb
      go_wp2_with fail
      refine (virtual_c 0 none none 0 0 0 0 0 0 0 (fun _ => 0) (fun _ => 0) v3 (noTags _ _ _ _) (noTags _ _ _ _) (by omega)).mono ?_
      rintro e v4 ⟨rfl, hb⟩
      have TT4 := Lib.hid (TT3.out.trans (hb.mono TT3.out.size))
      clear hb
      go_wp2_with fail
      refine (wakes26_c _).mono ?_
      rintro e v5 ⟨rfl, hb⟩
      have TT5 := Lib.hid (TT4.out.trans (hb.mono TT4.out.size))
      clear hb
      go_wp2_with fail
      exact bodyPost_ret (v := .bool true) (by simp [results, Try.results6, go_sem]) rfl ⟨rfl, TT5.out⟩
    · have h0z : (0 : Int) < (nq : Int) := by omega
      have h0n : 0 < nq := by omega
      go_wp2_with fail
      refine (fpick_nil _ none 0 0).mono ?_
      rintro e v1 ⟨rfl, hb⟩
      have TT1 := Lib.hid (hB2'.out.trans (hb.mono hB2'.out.size))
      clear hb
      go_wp2_with fail
      refine (fcopy_nil v1).mono ?_
      rintro e v2 ⟨rfl, rfl⟩
      go_wp2_with fail
      refine (fstate_nil _).mono ?_
      rintro e v3 ⟨rfl, hb⟩
      have TT3 := Lib.hid (TT1.out.trans (hb.mono TT1.out.size))
      clear hb
      go_wp2_with fail
      refine (virtual_c 0 none none 0 0 0 0 0 0 0 (fun _ => 0) (fun _ => 0) v3 (noTags _ _ _ _) (noTags _ _ _ _) (by omega)).mono ?_
      rintro e v4 ⟨rfl, hb⟩
      have TT4 := Lib.hid (TT3.out.trans (hb.mono TT3.out.size))
      clear hb
      go_wp2_with fail
      refine (wakes26_c _).mono ?_
      rintro e v5 ⟨rfl, hb⟩
      have TT5 := Lib.hid (TT4.out.trans (hb.mono TT4.out.size))
      clear hb
      go_wp2_with fail
      exact bodyPost_ret (v := .bool true) (by simp [results, Try.results6, go_sem]) rfl ⟨rfl, TT5.out⟩
set_option maxRecDepth 100000 in
set_option maxHeartbeats 20000000 in
theorem fpicks_c (w : World) (aw al : Option Addr) (nw cw nl cl0 bl ol : Nat) (dw : List Int) (A : Nat → Option Addr) (L C Bl Ol : Nat → Nat) (Hs G : Nat → Nat → Int) (Wt : IAt w aw nw cw dw) (T : HsAt w al bl ol nl A L C Bl Ol Hs G) (hw : nw ≤ 20) (hq : nl ≤ 100) (hok : newOk dw) :
    Calls Try.prog 6 #[.slice aw nw cw, .slice al nl cl0] w fun e w' => e = .returned (.bool true) ∧ Below w.heap.size w w' := by
  have hwz : ¬ (20 : Int) < (nw : Int) := by omega
  have hqz : ¬ (100 : Int) < (nl : Int) := by omega
  have hlw := Wt.len
  have hnw : nw ≤ 8 := by have := hok.2.1; omega
  have hnew := Lib.hid ((fnew_c w aw nw cw dw Wt).resolve_right (fun q => q.1 hok)).2
  have hnew2 := Lib.hid (fun (u : World) (hu : Below w.heap.size w u) => ((rfnew_c u aw nw cw dw (Wt.bel hu)).resolve_right (fun q => q.1 hok)).2)
  have hgd : ∀ i, i < nw → 1 ≤ gd dw i ∧ gd dw i ≤ 16 := fun i hi => hok.2.2 _ (gd_mem (by omega))
  have hinv0 := Lib.hid (inv0 hnw hgd)
  replace T := Lib.hid T
  clear Wt hok hlw hgd
  go_enter Try.func6, Try.ntmps6
  go_wp2_with fail
  refine hnew.out.mono ?_
  rintro e w1 ⟨f, lb, cl, tb, ct, rfl, hFD, hf1, hf2, hf3, hB1⟩
  have hn2 := Lib.hid (hnew2.out w1 hB1)
  replace hB1 := Lib.hid hB1
  replace hFD := Lib.hid hFD
  clear hnew hnew2
  go_wp2_with fail
  refine hn2.out.mono ?_
  rintro e w2 ⟨B, rtb, rct, rfl, hRF, hr1, hr2, hr3, hr4, hr5, hB2⟩
  have hs1 := hB1.out.size
  have hfl := hFD.out.b.l
  have hll := hFD.out.l.l
  have htl := hFD.out.tl
  have hP : RowKit.Hid (PS w w2 f lb cl B nw (sumW (gd dw) nw) (gd dw) sched0 tb ct rtb rct 0) := Lib.hid
    ⟨hFD.out.bel hB2, hRF, by have := hinv0.out; simpa [sched0] using this, hB1.out.trans (hB2.mono hs1), ⟨hf1, hf2, hf3, by omega, by omega, by omega, by omega, by omega⟩, ⟨by omega, by omega, by omega, by omega, by omega⟩, ⟨by omega, by omega, by omega, by omega, by omega⟩, ⟨by omega, by omega, by omega, by omega, by omega⟩⟩
  clear hn2 hB1 hB2 hFD hRF hinv0
  generalize sumW (gd dw) nw = ALL at hP
  go_wp2_with fail
  go_loopw [4, 9, 10, 11, 12, 13, 14, 15, 16] (fun _ s9 _ _ _ _ _ _ _ wr => ∃ (i : Nat) (x : Sched) (tb ct rtb rct : Nat), s9 = .int .i64 (i : Nat) ∧ i ≤ nl ∧ RowKit.Hid (PS w wr f lb cl B nw ALL (gd dw) x tb ct rtb rct i)) (fun _ s9 _ _ _ _ _ _ _ _ => nl - (intOf s9).toNat)
  case atStart => exact ⟨0, sched0, tb, ct, rtb, rct, rfl, Nat.zero_le _, hP⟩
  case round =>
    obtain ⟨i, x, tb, ct, rtb, rct, rfl, hi, hP⟩ := hrel
    have ii : (i : Int) ≤ (nl : Int) := by omega
    have hbw := Lib.hid hP.out.bel
    by_cases hlt : i < nl
    · have ii1 : (i : Int) < (nl : Int) := by omega
      obtain rfl := T.out.ha (by omega)
      have hge := hP.out.ge
      have x0 := (T.out.bel hP.out.bel).c0 i hlt
      have hbl := T.out.hb (by omega)
      have hTi := T.out.t i hlt
      obtain ⟨Li, eL⟩ : ∃ n, L i = n := ⟨_, rfl⟩
      obtain ⟨Ci, eC⟩ : ∃ n, C i = n := ⟨_, rfl⟩
      obtain ⟨Ai, eA⟩ : ∃ n, A i = n := ⟨_, rfl⟩
      rw [eL, eC, eA] at x0
      rw [eL, eA] at hTi
      replace hTi := Lib.hid hTi
      have eLH := Lib.hid eL
      have eCH := Lib.hid eC
      have eAH := Lib.hid eA
      clear eL eC eA
      by_cases hbig : 20 < Li
      · have hbz : (20 : Int) < (Li : Int) := by omega
        go_wp2_with fail
        refine (wakes26_c _).mono ?_
        rintro e v5 ⟨rfl, hb⟩
        have TT5 := Lib.hid (hbw.out.trans (hb.mono hbw.out.size))
        clear hb
        go_wp2_with fail
        exact bodyPost_ret (v := .bool true) (by simp [results, Try.results6, go_sem]) rfl ⟨rfl, TT5.out⟩
      · have hbz : (Li : Int) ≤ 20 := by omega
        have hinv := Lib.hid hP.out.inv
        have hM : ((i : Nat) : Int) * PM ≤ 1000000000000000 := by unfold PM; omega
        have hBi : 0 < Li → Bl i < w.heap.size := fun q => hTi.out.hb q
        obtain ⟨hs1, hs2, hs3⟩ : (f ≠ B.r ∧ f ≠ B.wb ∧ f ≠ B.sb ∧ f ≠ B.db ∧ f ≠ rtb) ∧ (lb ≠ B.r ∧ lb ≠ B.wb ∧ lb ≠ B.sb ∧ lb ≠ B.db ∧ lb ≠ rtb) ∧ (tb ≠ B.r ∧ tb ≠ B.wb ∧ tb ≠ B.sb ∧ tb ≠ B.db ∧ tb ≠ rtb) := ⟨hP.out.s1, hP.out.s2, hP.out.s3⟩
        have hfl := hP.out.fd.b.l
        have hll := hP.out.fd.l.l
        have htl := hP.out.fd.tl
        have hrl := hP.out.rf.b.l
        have hwl := hP.out.rf.wr.l
        have hsl := hP.out.rf.s.l
        have hdl := hP.out.rf.d.l
        have hrt := hP.out.rf.tl
        have hcp := Lib.hid (fcopy_c hP.out.fd)
        have hwz2 := hP.out.bel.size
        go_wp2_with fail
        refine hcp.out.mono ?_
        rintro e w3 ⟨f3, lb3, cl3, tb3, ct3, rfl, C3, g1, g2, g3, hb3⟩
        have F3 := hP.out.fd.bel hb3
        have R3 := hP.out.rf.bel hb3
        have hB3 := hP.out.bel.trans (hb3.mono hwz2)
        have x3 := cellB hb3 x0
        have hf3l := C3.b.l
        have hl3l := C3.l.l
        have ht3l := C3.tl
        have hd3 : f3 ≠ lb3 ∧ f3 ≠ tb3 ∧ lb3 ≠ tb3 := ⟨C3.a1, C3.a2, C3.a3⟩
        obtain ⟨p, hp⟩ : ∃ p, RowKit.Hid (pickG nw Li ALL (gd dw) (Hs i) x = p) := ⟨_, Lib.hid rfl⟩
        have hpk := fpick_g F3 hinv.out hM Ai (Bl i) (Ol i) Li Ci (Hs i) (G i) (hTi.out.below hB3 hBi) (fun q => by have := hBi q; omega)
        rw [hp.out] at hpk
        have hinv2 := Lib.hid (Inv.pickG (n := Li) (h := Hs i) hinv.out)
        rw [hp.out] at hinv2
        have hws3 := hb3.size
        replace hpk := Lib.hid hpk
        replace hB3 := Lib.hid hB3
        replace C3 := Lib.hid C3
        replace R3 := Lib.hid R3
        clear hcp F3 hb3 x0 hP
        go_wp2_with fail
        refine hpk.out.mono ?_
        rintro e w4 ⟨tb4, ct4, rfl, F4, ht4, k4⟩
        have C4 := Lib.hid (k4.fd C3.out (by simp; omega) (by simp; omega) (by simp; omega))
        have R4 := Lib.hid (RF.kf k4 R3.out (by simp; omega) (by simp; omega) (by simp; omega) (by simp; omega) (by simp; omega))
        have hB4 := Lib.hid (hB3.out.trans (k4.below (fun q hq => by simp at hq; omega) hB3.out.size))
        have hs4 := k4.size
        have ht4l := F4.tl
        have ht4' : tb4 = tb ∨ w3.heap.size ≤ tb4 := ht4
        have hpk2 := rpick_g R4.out hinv.out hM Ai (Bl i) (Ol i) Li Ci (Hs i) (G i) (hTi.out.below hB4.out hBi) (fun q => by have := hBi q; omega)
        rw [hp.out] at hpk2
        have x4 := (T.out.bel hB4.out).c0 i hlt
        rw [eLH.out, eCH.out, eAH.out] at x4
        replace hpk2 := Lib.hid hpk2
        replace F4 := Lib.hid F4
        clear hpk k4 C3 R3 x3 hB3 ht4
        go_wp2_with fail
        refine hpk2.out.mono ?_
        rintro e w5 ⟨rtb5, rct5, rfl, R5, ht5, k5⟩
        have F5 := Lib.hid (k5.fd F4.out (by simp [RB.l]; omega) (by simp [RB.l]; omega) (by simp [RB.l]; omega))
        have C5 := k5.fd C4.out (by simp [RB.l]; omega) (by simp [RB.l]; omega) (by simp [RB.l]; omega)
        have hB5 := Lib.hid (hB4.out.trans (k5.below (fun q hq => by simp [RB.l] at hq; omega) hB4.out.size))
        have hs5 := k5.size
        have hrt5 := R5.tl
        have hpk3 := fpick_g C5 hinv.out hM Ai (Bl i) (Ol i) Li Ci (Hs i) (G i) (hTi.out.below hB5.out hBi) (fun q => by have := hBi q; omega)
        rw [hp.out] at hpk3
        have x5 := (T.out.bel hB5.out).c0 i hlt
        rw [eLH.out, eCH.out, eAH.out] at x5
        replace hpk3 := Lib.hid hpk3
        replace R5 := Lib.hid R5
        clear hpk2 k5 F4 R4 C4 C5 x4 hB4
        go_wp2_with fail
        refine hpk3.out.mono ?_
        rintro e w6 ⟨tb6, ct6, rfl, C6, ht6, k6⟩
        have F6 := Lib.hid (k6.fd F5.out (by simp; omega) (by simp; omega) (by simp; omega))
        have R6 := Lib.hid (RF.kf k6 R5.out (by simp; omega) (by simp; omega) (by simp; omega) (by simp; omega) (by simp; omega))
        have hB6 := Lib.hid (hB5.out.trans (k6.below (fun q hq => by simp at hq; omega) hB5.out.size))
        replace C6 := Lib.hid C6
        clear hpk3 k6 F5 R5 x5 hB5 ht6
        have r2 := R6.out.b.c 2 _ rfl
        have r3 := R6.out.b.c 3 _ rfl
        have hn1000 : nw ≤ 1000 := by omega
        go_upto_region 16 with fail
        refine wp_region_noPanic ?_
        refine Stg.wp_region_L [] (Vr.SB w6) (by kernel_rfl) (fun _ => (Below.refl _ _).drew) (fun hHeld => ?_)
        refine Stg.wpAnyL_start (n' := 38) (l' := #[false, false, false, false, false, false, false, false, false, false, false, false, false, false, false, false, false, false, false, false, false, false, false, false, false, false, false, false, false, false, false, false, false, false, false, false, false, false]) (by kernel_rfl) (by kernel_rfl) ?_
        refine Stg.wpAnyL_free (i := 0) (v := ?_) 0 rfl (by kernel_rfl) (by kernel_rfl) (by kernel_rfl) (by kernel_rfl) (by kernel_rfl) (fun _ _ _ h => h) (Or.inl ⟨by kernel_rfl, ?_⟩) (by assumption) ?_
        rotate_left
        · intro u _
          try simp only [List.getElem_toArray, List.getElem_cons_succ, List.getElem_cons_zero]
          go_simp
          try with_reducible rfl
        try simp only [Act.put, List.setIfInBounds_toArray, List.set_cons_zero, List.set_cons_succ]
        refine Stg.wpAnyL_free (i := 1) (v := ?_) 0 rfl (by kernel_rfl) (by kernel_rfl) (by kernel_rfl) (by kernel_rfl) (by kernel_rfl) (fun _ _ _ h => h) (Or.inl ⟨by kernel_rfl, ?_⟩) (by assumption) ?_
        rotate_left
        · intro u _
          try simp only [List.getElem_toArray, List.getElem_cons_succ, List.getElem_cons_zero]
          go_simp
          try with_reducible rfl
        try simp only [Act.put, List.setIfInBounds_toArray, List.set_cons_zero, List.set_cons_succ]
        refine Stg.wpAnyL_free (i := 2) (v := ?_) 0 rfl (by kernel_rfl) (by kernel_rfl) (by kernel_rfl) (by kernel_rfl) (by kernel_rfl) (fun _ _ _ h => h) (Or.inl ⟨by kernel_rfl, ?_⟩) (by assumption) ?_
        rotate_left
        · intro u _
          try simp only [List.getElem_toArray, List.getElem_cons_succ, List.getElem_cons_zero]
          go_simp
          try with_reducible rfl
        try simp only [Act.put, List.setIfInBounds_toArray, List.set_cons_zero, List.set_cons_succ]
        refine Stg.wpAnyL_start (n' := 35) (l' := #[true, true, true, false, false, false, false, false, false, false, false, false, false, false, false, false, false, false, false, false, false, false, false, false, false, false, false, false, false, false, false, false, false, false, false, false, false, false]) (by kernel_rfl) (by kernel_rfl) ?_
        refine Stg.wpAnyL_free (i := 3) (v := ?_) 0 rfl (by kernel_rfl) (by kernel_rfl) (by kernel_rfl) (by kernel_rfl) (by kernel_rfl) (fun _ _ _ h => h) (Or.inl ⟨by kernel_rfl, ?_⟩) (by assumption) ?_
        rotate_left
        · intro u _
          try simp only [List.getElem_toArray, List.getElem_cons_succ, List.getElem_cons_zero]
          go_simp
          try with_reducible rfl
        try simp only [Act.put, List.setIfInBounds_toArray, List.set_cons_zero, List.set_cons_succ]
        refine Stg.wpAnyL_free (i := 4) (v := ?_) 0 rfl (by kernel_rfl) (by kernel_rfl) (by kernel_rfl) (by kernel_rfl) (by kernel_rfl) (fun _ _ _ h => h) (Or.inl ⟨by kernel_rfl, ?_⟩) (by assumption) ?_
        rotate_left
        · intro u _
          try simp only [List.getElem_toArray, List.getElem_cons_succ, List.getElem_cons_zero]
          go_simp
          try with_reducible rfl
        try simp only [Act.put, List.setIfInBounds_toArray, List.set_cons_zero, List.set_cons_succ]
        refine Stg.wpAnyL_free (i := 5) (v := ?_) 0 rfl (by kernel_rfl) (by kernel_rfl) (by kernel_rfl) (by kernel_rfl) (by kernel_rfl) (fun _ _ _ h => h) (Or.inl ⟨by kernel_rfl, ?_⟩) (by assumption) ?_
        rotate_left
        · intro u _
          try simp only [List.getElem_toArray, List.getElem_cons_succ, List.getElem_cons_zero]
          go_simp
          try with_reducible rfl
        try simp only [Act.put, List.setIfInBounds_toArray, List.set_cons_zero, List.set_cons_succ]
        refine Stg.wpAnyL_start (n' := 32) (l' := #[true, true, true, true, true, true, false, false, false, false, false, false, false, false, false, false, false, false, false, false, false, false, false, false, false, false, false, false, false, false, false, false, false, false, false, false, false, false]) (by kernel_rfl) (by kernel_rfl) ?_
        refine Stg.wpAnyL_free (i := 6) (v := ?_) 0 rfl (by kernel_rfl) (by kernel_rfl) (by kernel_rfl) (by kernel_rfl) (by kernel_rfl) (fun _ _ _ h => h) (Or.inl ⟨by kernel_rfl, ?_⟩) (by assumption) ?_
        rotate_left
        · intro u _
          try simp only [List.getElem_toArray, List.getElem_cons_succ, List.getElem_cons_zero]
          go_simp
          try with_reducible rfl
        try simp only [Act.put, List.setIfInBounds_toArray, List.set_cons_zero, List.set_cons_succ]
        refine Stg.wpAnyL_free (i := 7) (v := ?_) 0 rfl (by kernel_rfl) (by kernel_rfl) (by kernel_rfl) (by kernel_rfl) (by kernel_rfl) (fun _ _ _ h => h) (Or.inl ⟨by kernel_rfl, ?_⟩) (by assumption) ?_
        rotate_left
        · intro u _
          try simp only [List.getElem_toArray, List.getElem_cons_succ, List.getElem_cons_zero]
          go_simp
          try with_reducible rfl
        try simp only [Act.put, List.setIfInBounds_toArray, List.set_cons_zero, List.set_cons_succ]
        refine Stg.wpAnyL_free (i := 8) (v := ?_) 0 rfl (by kernel_rfl) (by kernel_rfl) (by kernel_rfl) (by kernel_rfl) (by kernel_rfl) (fun _ _ _ h => h) (Or.inl ⟨by kernel_rfl, ?_⟩) (by assumption) ?_
        rotate_left
        · intro u _
          try simp only [List.getElem_toArray, List.getElem_cons_succ, List.getElem_cons_zero]
          go_simp
          try with_reducible rfl
        try simp only [Act.put, List.setIfInBounds_toArray, List.set_cons_zero, List.set_cons_succ]
        refine Stg.wpAnyL_start (n' := 29) (l' := #[true, true, true, true, true, true, true, true, true, false, false, false, false, false, false, false, false, false, false, false, false, false, false, false, false, false, false, false, false, false, false, false, false, false, false, false, false, false]) (by kernel_rfl) (by kernel_rfl) ?_
        refine Stg.wpAnyL_free (i := 9) (v := ?_) 0 rfl (by kernel_rfl) (by kernel_rfl) (by kernel_rfl) (by kernel_rfl) (by kernel_rfl) (fun _ _ _ h => h) (Or.inl ⟨by kernel_rfl, ?_⟩) (by assumption) ?_
        rotate_left
        · intro u _
          try simp only [List.getElem_toArray, List.getElem_cons_succ, List.getElem_cons_zero]
          go_simp
          try with_reducible rfl
        try simp only [Act.put, List.setIfInBounds_toArray, List.set_cons_zero, List.set_cons_succ]
        refine Stg.wpAnyL_free (i := 10) (v := ?_) 0 rfl (by kernel_rfl) (by kernel_rfl) (by kernel_rfl) (by kernel_rfl) (by kernel_rfl) (fun _ _ _ h => h) (Or.inl ⟨by kernel_rfl, ?_⟩) (by assumption) ?_
        rotate_left
        · intro u _
          try simp only [List.getElem_toArray, List.getElem_cons_succ, List.getElem_cons_zero]
          go_simp
          try with_reducible rfl
        try simp only [Act.put, List.setIfInBounds_toArray, List.set_cons_zero, List.set_cons_succ]
        refine Stg.wpAnyL_free (i := 11) (v := ?_) 0 rfl (by kernel_rfl) (by kernel_rfl) (by kernel_rfl) (by kernel_rfl) (by kernel_rfl) (fun _ _ _ h => h) (Or.inl ⟨by kernel_rfl, ?_⟩) (by assumption) ?_
        rotate_left
        · intro u _
          try simp only [List.getElem_toArray, List.getElem_cons_succ, List.getElem_cons_zero]
          go_simp
          try with_reducible rfl
        try simp only [Act.put, List.setIfInBounds_toArray, List.set_cons_zero, List.set_cons_succ]
        refine Stg.wpAnyL_start (n' := 26) (l' := #[true, true, true, true, true, true, true, true, true, true, true, true, false, false, false, false, false, false, false, false, false, false, false, false, false, false, false, false, false, false, false, false, false, false, false, false, false, false]) (by kernel_rfl) (by kernel_rfl) ?_
        refine Stg.wpAnyL_free (i := 12) (v := ?_) 0 rfl (by kernel_rfl) (by kernel_rfl) (by kernel_rfl) (by kernel_rfl) (by kernel_rfl) (fun _ _ _ h => h) (Or.inl ⟨by kernel_rfl, ?_⟩) (by assumption) ?_
        rotate_left
        · intro u _
          try simp only [List.getElem_toArray, List.getElem_cons_succ, List.getElem_cons_zero]
          go_simp
          try with_reducible rfl
        try simp only [Act.put, List.setIfInBounds_toArray, List.set_cons_zero, List.set_cons_succ]
        refine Stg.wpAnyL_free (i := 13) (v := ?_) 0 rfl (by kernel_rfl) (by kernel_rfl) (by kernel_rfl) (by kernel_rfl) (by kernel_rfl) (fun _ _ _ h => h) (Or.inl ⟨by kernel_rfl, ?_⟩) (by assumption) ?_
        rotate_left
        · intro u _
          try simp only [List.getElem_toArray, List.getElem_cons_succ, List.getElem_cons_zero]
          go_simp
          try with_reducible rfl
        try simp only [Act.put, List.setIfInBounds_toArray, List.set_cons_zero, List.set_cons_succ]
        refine Stg.wpAnyL_free (i := 14) (v := ?_) 0 rfl (by kernel_rfl) (by kernel_rfl) (by kernel_rfl) (by kernel_rfl) (by kernel_rfl) (fun _ _ _ h => h) (Or.inl ⟨by kernel_rfl, ?_⟩) (by assumption) ?_
        rotate_left
        · intro u _
          try simp only [List.getElem_toArray, List.getElem_cons_succ, List.getElem_cons_zero]
          go_simp
          try with_reducible rfl
        try simp only [Act.put, List.setIfInBounds_toArray, List.set_cons_zero, List.set_cons_succ]
        refine Stg.wpAnyL_start (n' := 23) (l' := #[true, true, true, true, true, true, true, true, true, true, true, true, true, true, true, false, false, false, false, false, false, false, false, false, false, false, false, false, false, false, false, false, false, false, false, false, false, false]) (by kernel_rfl) (by kernel_rfl) ?_
        refine Stg.wpAnyL_free (i := 15) (v := ?_) 0 rfl (by kernel_rfl) (by kernel_rfl) (by kernel_rfl) (by kernel_rfl) (by kernel_rfl) (fun _ _ _ h => h) (Or.inl ⟨by kernel_rfl, ?_⟩) (by assumption) ?_
        rotate_left
        · intro u _
          try simp only [List.getElem_toArray, List.getElem_cons_succ, List.getElem_cons_zero]
          go_simp
          try with_reducible rfl
        try simp only [Act.put, List.setIfInBounds_toArray, List.set_cons_zero, List.set_cons_succ]
        refine Stg.wpAnyL_free (i := 16) (v := ?_) 0 rfl (by kernel_rfl) (by kernel_rfl) (by kernel_rfl) (by kernel_rfl) (by kernel_rfl) (fun _ _ _ h => h) (Or.inl ⟨by kernel_rfl, ?_⟩) (by assumption) ?_
        rotate_left
        · intro u _
          try simp only [List.getElem_toArray, List.getElem_cons_succ, List.getElem_cons_zero]
          go_simp
          try with_reducible rfl
        try simp only [Act.put, List.setIfInBounds_toArray, List.set_cons_zero, List.set_cons_succ]
        refine Stg.wpAnyL_free (i := 17) (v := ?_) 0 rfl (by kernel_rfl) (by kernel_rfl) (by kernel_rfl) (by kernel_rfl) (by kernel_rfl) (fun _ _ _ h => h) (Or.inl ⟨by kernel_rfl, ?_⟩) (by assumption) ?_
        rotate_left
        · intro u _
          try simp only [List.getElem_toArray, List.getElem_cons_succ, List.getElem_cons_zero]
          go_simp
          try with_reducible rfl
        try simp only [Act.put, List.setIfInBounds_toArray, List.set_cons_zero, List.set_cons_succ]
        refine Stg.wpAnyL_start (n' := 20) (l' := #[true, true, true, true, true, true, true, true, true, true, true, true, true, true, true, true, true, true, false, false, false, false, false, false, false, false, false, false, false, false, false, false, false, false, false, false, false, false]) (by kernel_rfl) (by kernel_rfl) ?_
        refine Stg.wpAnyL_free (i := 18) (v := ?_) 0 rfl (by kernel_rfl) (by kernel_rfl) (by kernel_rfl) (by kernel_rfl) (by kernel_rfl) (fun _ _ _ h => h) (Or.inl ⟨by kernel_rfl, ?_⟩) (by assumption) ?_
        rotate_left
        · intro u _
          try simp only [List.getElem_toArray, List.getElem_cons_succ, List.getElem_cons_zero]
          go_simp
          try with_reducible rfl
        try simp only [Act.put, List.setIfInBounds_toArray, List.set_cons_zero, List.set_cons_succ]
        refine Stg.wpAnyL_free (i := 19) (v := ?_) 0 rfl (by kernel_rfl) (by kernel_rfl) (by kernel_rfl) (by kernel_rfl) (by kernel_rfl) (fun _ _ _ h => h) (Or.inl ⟨by kernel_rfl, ?_⟩) (by assumption) ?_
        rotate_left
        · intro u _
          try simp only [List.getElem_toArray, List.getElem_cons_succ, List.getElem_cons_zero]
          go_simp
          try with_reducible rfl
        try simp only [Act.put, List.setIfInBounds_toArray, List.set_cons_zero, List.set_cons_succ]
        refine Stg.wpAnyL_free (i := 21) (v := ?_) 0 rfl (by kernel_rfl) (by kernel_rfl) (by kernel_rfl) (by kernel_rfl) (by kernel_rfl) (fun _ _ _ h => h) (Or.inl ⟨by kernel_rfl, ?_⟩) (by assumption) ?_
        rotate_left
        · intro u _
          try simp only [List.getElem_toArray, List.getElem_cons_succ, List.getElem_cons_zero]
          go_simp
          try with_reducible rfl
        try simp only [Act.put, List.setIfInBounds_toArray, List.set_cons_zero, List.set_cons_succ]
        refine Stg.wpAnyL_start (n' := 17) (l' := #[true, true, true, true, true, true, true, true, true, true, true, true, true, true, true, true, true, true, true, true, false, true, false, false, false, false, false, false, false, false, false, false, false, false, false, false, false, false]) (by kernel_rfl) (by kernel_rfl) ?_
        refine Stg.wpAnyL_free (i := 22) (v := ?_) 0 rfl (by kernel_rfl) (by kernel_rfl) (by kernel_rfl) (by kernel_rfl) (by kernel_rfl) (fun _ _ _ h => h) (Or.inl ⟨by kernel_rfl, ?_⟩) (by assumption) ?_
        rotate_left
        · intro u _
          try simp only [List.getElem_toArray, List.getElem_cons_succ, List.getElem_cons_zero]
          go_simp
          try with_reducible rfl
        try simp only [Act.put, List.setIfInBounds_toArray, List.set_cons_zero, List.set_cons_succ]
        refine Stg.wpAnyL_free (i := 23) (v := ?_) 0 rfl (by kernel_rfl) (by kernel_rfl) (by kernel_rfl) (by kernel_rfl) (by kernel_rfl) (fun _ _ _ h => h) (Or.inl ⟨by kernel_rfl, ?_⟩) (by assumption) ?_
        rotate_left
        · intro u _
          try simp only [List.getElem_toArray, List.getElem_cons_succ, List.getElem_cons_zero]
          go_simp
          try with_reducible rfl
        try simp only [Act.put, List.setIfInBounds_toArray, List.set_cons_zero, List.set_cons_succ]
        refine Stg.wpAnyL_take (i := 24) (v := ?_) [25, 26, 27, 28, 29, 30, 31, 32, 33, 34, 35, 36, 37] 0 rfl (by kernel_rfl) (by kernel_rfl) (by kernel_rfl) (by kernel_rfl) (by kernel_rfl) (fun _ _ _ h => h) (Or.inl ⟨by kernel_rfl, ?_⟩) (by assumption) ?_
        rotate_left
        · intro u hSu
          skip
          have sB := hSu rfl
          have y0 := cellB sB r2
          have y1 := cellB sB r3
          try simp only [List.getElem_toArray, List.getElem_cons_succ, List.getElem_cons_zero]
          go_simp
          try with_reducible rfl
        try simp only [Act.put, List.setIfInBounds_toArray, List.set_cons_zero, List.set_cons_succ]
        refine Stg.wpAnyL_start (n' := 14) (l' := #[true, true, true, true, true, true, true, true, true, true, true, true, true, true, true, true, true, true, true, true, false, true, true, true, true, false, false, false, false, false, false, false, false, false, false, false, false, false]) (by kernel_rfl) (by kernel_rfl) ?_
        refine Stg.wpAnyL_one (i := 20) 0 rfl (by kernel_rfl) (by kernel_rfl) (fun K hK => ?_)
        try simp only [List.getElem_toArray, List.getElem_cons_succ, List.getElem_cons_zero]
        go_simp
        refine (fstate_c (F6.out.bel (hHeld rfl))).mono ?_
        rintro e u1 ⟨a1, g1, c1, rfl, TS1, _, hb1⟩
        refine hK.out _ _ ?_ (fun hHeld1 => ?_)
        · exact fun _ => bNext (hHeld rfl) hb1 (Nat.le_refl _)
        clear hK K
        try simp only [Act.put, List.setIfInBounds_toArray, List.set_cons_zero, List.set_cons_succ]
        refine Stg.wpAnyL_one (i := 25) 0 rfl (by kernel_rfl) (by kernel_rfl) (fun K hK => ?_)
        try simp only [List.getElem_toArray, List.getElem_cons_succ, List.getElem_cons_zero]
        go_simp
        refine (virtual_c p.x.V a1 (some ⟨rtb5, 0, none⟩) g1 0 rtb5 0 nw c1 rct5 p.x.S p.x.F _ TS1 (R6.out.bel (hHeld1 rfl)).t hn1000).mono ?_
        rintro e u2 ⟨rfl, hb2⟩
        refine hK.out _ _ ?_ (fun hHeld2 => ?_)
        · exact fun _ => bNext (hHeld1 rfl) hb2 (Nat.le_refl _)
        clear hK K
        try simp only [Act.put, List.setIfInBounds_toArray, List.set_cons_zero, List.set_cons_succ]
        refine Stg.wpAnyL_free (i := 26) (v := ?_) 0 rfl (by kernel_rfl) (by kernel_rfl) (by kernel_rfl) (by kernel_rfl) (by kernel_rfl) (fun _ _ _ h => h) (Or.inl ⟨by kernel_rfl, ?_⟩) (by assumption) ?_
        rotate_left
        · intro u _
          try simp only [List.getElem_toArray, List.getElem_cons_succ, List.getElem_cons_zero]
          go_simp
          try with_reducible rfl
        try simp only [Act.put, List.setIfInBounds_toArray, List.set_cons_zero, List.set_cons_succ]
        refine Stg.wpAnyL_start (n' := 11) (l' := #[true, true, true, true, true, true, true, true, true, true, true, true, true, true, true, true, true, true, true, true, true, true, true, true, true, true, true, false, false, false, false, false, false, false, false, false, false, false]) (by kernel_rfl) (by kernel_rfl) ?_
        refine Stg.wpAnyL_free (i := 27) (v := ?_) 0 rfl (by kernel_rfl) (by kernel_rfl) (by kernel_rfl) (by kernel_rfl) (by kernel_rfl) (fun _ _ _ h => h) (Or.inl ⟨by kernel_rfl, ?_⟩) (by assumption) ?_
        rotate_left
        · intro u _
          try simp only [List.getElem_toArray, List.getElem_cons_succ, List.getElem_cons_zero]
          go_simp
          try with_reducible rfl
        try simp only [Act.put, List.setIfInBounds_toArray, List.set_cons_zero, List.set_cons_succ]
        refine Stg.wpAnyL_free (i := 28) (v := ?_) 0 rfl (by kernel_rfl) (by kernel_rfl) (by kernel_rfl) (by kernel_rfl) (by kernel_rfl) (fun _ _ _ h => h) (Or.inl ⟨by kernel_rfl, ?_⟩) (by assumption) ?_
        rotate_left
        · intro u _
          try simp only [List.getElem_toArray, List.getElem_cons_succ, List.getElem_cons_zero]
          go_simp
          try with_reducible rfl
        try simp only [Act.put, List.setIfInBounds_toArray, List.set_cons_zero, List.set_cons_succ]
        refine Stg.wpAnyL_free (i := 29) (v := ?_) 0 rfl (by kernel_rfl) (by kernel_rfl) (by kernel_rfl) (by kernel_rfl) (by kernel_rfl) (fun _ _ _ h => h) (Or.inl ⟨by kernel_rfl, ?_⟩) (by assumption) ?_
        rotate_left
        · intro u _
          try simp only [List.getElem_toArray, List.getElem_cons_succ, List.getElem_cons_zero]
          go_simp
          try with_reducible rfl
        try simp only [Act.put, List.setIfInBounds_toArray, List.set_cons_zero, List.set_cons_succ]
        refine Stg.wpAnyL_start (n' := 8) (l' := #[true, true, true, true, true, true, true, true, true, true, true, true, true, true, true, true, true, true, true, true, true, true, true, true, true, true, true, true, true, true, false, false, false, false, false, false, false, false]) (by kernel_rfl) (by kernel_rfl) ?_
        refine Stg.wpAnyL_free (i := 31) (v := ?_) 0 rfl (by kernel_rfl) (by kernel_rfl) (by kernel_rfl) (by kernel_rfl) (by kernel_rfl) (fun _ _ _ h => h) (Or.inl ⟨by kernel_rfl, ?_⟩) (by assumption) ?_
        rotate_left
        · intro u _
          try simp only [List.getElem_toArray, List.getElem_cons_succ, List.getElem_cons_zero]
          go_simp
          try with_reducible rfl
        try simp only [Act.put, List.setIfInBounds_toArray, List.set_cons_zero, List.set_cons_succ]
        refine Stg.wpAnyL_free (i := 32) (v := ?_) 0 rfl (by kernel_rfl) (by kernel_rfl) (by kernel_rfl) (by kernel_rfl) (by kernel_rfl) (fun _ _ _ h => h) (Or.inl ⟨by kernel_rfl, ?_⟩) (by assumption) ?_
        rotate_left
        · intro u _
          try simp only [List.getElem_toArray, List.getElem_cons_succ, List.getElem_cons_zero]
          go_simp
          try with_reducible rfl
        try simp only [Act.put, List.setIfInBounds_toArray, List.set_cons_zero, List.set_cons_succ]
        refine Stg.wpAnyL_free (i := 33) (v := ?_) 0 rfl (by kernel_rfl) (by kernel_rfl) (by kernel_rfl) (by kernel_rfl) (by kernel_rfl) (fun _ _ _ h => h) (Or.inl ⟨by kernel_rfl, ?_⟩) (by assumption) ?_
        rotate_left
        · intro u _
          try simp only [List.getElem_toArray, List.getElem_cons_succ, List.getElem_cons_zero]
          go_simp
          try with_reducible rfl
        try simp only [Act.put, List.setIfInBounds_toArray, List.set_cons_zero, List.set_cons_succ]
        refine Stg.wpAnyL_start (n' := 5) (l' := #[true, true, true, true, true, true, true, true, true, true, true, true, true, true, true, true, true, true, true, true, true, true, true, true, true, true, true, true, true, true, false, true, true, true, false, false, false, false]) (by kernel_rfl) (by kernel_rfl) ?_
        refine Stg.wpAnyL_take (i := 34) (v := ?_) [35, 36, 37] 0 rfl (by kernel_rfl) (by kernel_rfl) (by kernel_rfl) (by kernel_rfl) (by kernel_rfl) (fun _ _ _ h => h) (Or.inl ⟨by kernel_rfl, ?_⟩) (by assumption) ?_
        rotate_left
        · intro u hSu
          skip
          have sB := hSu rfl
          have y0 := cellB sB r2
          have y1 := cellB sB r3
          try simp only [List.getElem_toArray, List.getElem_cons_succ, List.getElem_cons_zero]
          go_simp
          try with_reducible rfl
        try simp only [Act.put, List.setIfInBounds_toArray, List.set_cons_zero, List.set_cons_succ]
        refine Stg.wpAnyL_one (i := 30) 0 rfl (by kernel_rfl) (by kernel_rfl) (fun K hK => ?_)
        try simp only [List.getElem_toArray, List.getElem_cons_succ, List.getElem_cons_zero]
        go_simp
        refine (fstate_c (C6.out.bel (hHeld2 rfl))).mono ?_
        rintro e u3 ⟨a3, g3, c3, rfl, TS3, _, hb3⟩
        refine hK.out _ _ ?_ (fun hHeld3 => ?_)
        · exact fun _ => bNext (hHeld2 rfl) hb3 (Nat.le_refl _)
        clear hK K
        try simp only [Act.put, List.setIfInBounds_toArray, List.set_cons_zero, List.set_cons_succ]
        refine Stg.wpAnyL_one (i := 35) 0 rfl (by kernel_rfl) (by kernel_rfl) (fun K hK => ?_)
        try simp only [List.getElem_toArray, List.getElem_cons_succ, List.getElem_cons_zero]
        go_simp
        refine (virtual_c p.x.V a3 (some ⟨rtb5, 0, none⟩) g3 0 rtb5 0 nw c3 rct5 p.x.S p.x.F _ TS3 (R6.out.bel (hHeld3 rfl)).t hn1000).mono ?_
        rintro e u4 ⟨rfl, hb4⟩
        refine hK.out _ _ ?_ (fun hHeld4 => ?_)
        · exact fun _ => bNext (hHeld3 rfl) hb4 (Nat.le_refl _)
        clear hK K
        try simp only [Act.put, List.setIfInBounds_toArray, List.set_cons_zero, List.set_cons_succ]
        refine Stg.wpAnyL_start (n' := 2) (l' := #[true, true, true, true, true, true, true, true, true, true, true, true, true, true, true, true, true, true, true, true, true, true, true, true, true, true, true, true, true, true, true, true, true, true, true, true, false, false]) (by kernel_rfl) (by kernel_rfl) ?_
        refine Stg.wpAnyL_free (i := 36) (v := ?_) 0 rfl (by kernel_rfl) (by kernel_rfl) (by kernel_rfl) (by kernel_rfl) (by kernel_rfl) (fun _ _ _ h => h) (Or.inl ⟨by kernel_rfl, ?_⟩) (by assumption) ?_
        rotate_left
        · intro u _
          try simp only [List.getElem_toArray, List.getElem_cons_succ, List.getElem_cons_zero]
          go_simp
          try with_reducible rfl
        try simp only [Act.put, List.setIfInBounds_toArray, List.set_cons_zero, List.set_cons_succ]
        refine Stg.wpAnyL_free (i := 37) (v := ?_) 0 rfl (by kernel_rfl) (by kernel_rfl) (by kernel_rfl) (by kernel_rfl) (by kernel_rfl) (fun _ _ _ h => h) (Or.inl ⟨by kernel_rfl, ?_⟩) (by assumption) ?_
        rotate_left
        · intro u _
          try simp only [List.getElem_toArray, List.getElem_cons_succ, List.getElem_cons_zero]
          go_simp
          try with_reducible rfl
        try simp only [Act.put, List.setIfInBounds_toArray, List.set_cons_zero, List.set_cons_succ]
        refine Stg.wpAnyL_done (by kernel_rfl) ?_ _
        try simp only [List.getElem_toArray, List.getElem_cons_succ, List.getElem_cons_zero]
        try simp only [Act.put, List.setIfInBounds_toArray, List.set_cons_zero, List.set_cons_succ]
        refine NoPanic.normal ?_
        have hbe := Lib.hid (hHeld4 rfl)
        have hend : RowKit.Hid (PS w u4 f lb cl B nw ALL (gd dw) p.x tb4 ct4 rtb5 rct5 (i + 1)) := Lib.hid
          ⟨F6.out.bel hbe.out, R6.out.bel hbe.out, by have := hinv2.out; rw [show (((i + 1 : Nat) : Int)) * PM = (i : Int) * PM + PM by push_cast; rw [Int.add_mul, Int.one_mul]]; exact this, hB6.out.trans (hbe.out.mono hB6.out.size), ⟨by omega, by omega, by omega, by omega, by omega, by omega, by omega, by omega⟩, ⟨by omega, by omega, by omega, by omega, by omega⟩, ⟨by omega, by omega, by omega, by omega, by omega⟩, ⟨by omega, by omega, by omega, by omega, by omega⟩⟩
        clear hbe F6 R6 C6 hB6 r2 r3 hHeld hinv2
        go_wp2_with fail
        go_roundw
        case rel => exact ⟨i + 1, p.x, tb4, ct4, rtb5, rct5, by go_num, hlt, hend⟩
        case measure => simp [intOf]; omega
    · obtain rfl : i = nl := by omega
      clear hP
      go_wp2_with fail
      refine (fpick_nil _ none 0 0).mono ?_
      rintro e v1 ⟨rfl, hb⟩
      have TT1 := Lib.hid (hbw.out.trans (hb.mono hbw.out.size))
      clear hb
      go_wp2_with fail
      refine (fcopy_nil v1).mono ?_
      rintro e v2 ⟨rfl, rfl⟩
      go_wp2_with fail
      refine (fstate_nil _).mono ?_
      rintro e v3 ⟨rfl, hb⟩
      have TT3 := Lib.hid (TT1.out.trans (hb.mono TT1.out.size))
      clear hb
      go_wp2_with fail
      refine (virtual_c 0 none none 0 0 0 0 0 0 0 (fun _ => 0) (fun _ => 0) v3 (noTags _ _ _ _) (noTags _ _ _ _) (by omega)).mono ?_
      rintro e v4 ⟨rfl, hb⟩
      have TT4 := Lib.hid (TT3.out.trans (hb.mono TT3.out.size))
      clear hb
      go_wp2_with fail
      refine (wakes26_c _).mono ?_
      rintro e v5 ⟨rfl, hb⟩
      have TT5 := Lib.hid (TT4.out.trans (hb.mono TT4.out.size))
      clear hb
      go_wp2_with fail
      exact bodyPost_ret (v := .bool true) (by simp [results, Try.results6, go_sem]) rfl ⟨rfl, TT5.out⟩
theorem fairPicks_walk (w : World) (v0 : Value) (a0 : XT_Lint) (v1 : Value) (a1 : XT_LLHead) (w0 : Is_Lint w v0 a0) (w1 : Is_LLHead w v1 a1) :
    Calls Try.prog 6 #[v0, v1] w fun e w' => e = .returned (.bool true) ∧ Below w.heap.size w w' := by
  obtain ⟨rfl, W0⟩ := w0
  obtain ⟨rfl, T0⟩ := w1
  by_cases h : 20 < a0.n ∨ 100 < a1.n
  · exact fpicks_great w a0.a a1.a a0.n a0.c a1.n a1.c h
  · by_cases hok : newOk a0.d
    · exact fpicks_c w a0.a a1.a a0.n a0.c a1.n a1.c a1.b a1.off a0.d a1.A a1.L a1.C a1.B a1.O a1.Hs a1.G W0 T0 (by omega) (by omega) hok
    · exact fpicks_no w a0.a a1.a a0.n a0.c a1.n a1.c a0.d W0 (by omega) (by omega) hok
end Go.Proofs.Ytbbcongfaoopcaa
