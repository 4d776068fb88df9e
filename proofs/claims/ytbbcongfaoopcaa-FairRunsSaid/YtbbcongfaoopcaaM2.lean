/- The reference's scheduler: New, its state while it is made. The reference's scheduler: New. The reference's scheduler: New refused; New whatever it is given. The reference's scheduler run over queues: Run. The reference's scheduler run over queues: Run refused; Run whatever it is given. The scheduler: both run queues alike. -/
import Derived.Test.YtbbcongfaoopcaaF22
import Derived.Test.YtbbcongfaoopcaaM1
import Derived.Test.YtbbcongfaoopcaaM1
namespace Go.Proofs.Ytbbcongfaoopcaa
open Go.ChangeShapes Go.WideShapes Go.ChangeAt Go.RowKit Go.Maps
set_option linter.unusedVariables false
set_option linter.unusedSimpArgs false
open BigFrame Pk Fq Vr Fa

namespace Fa
def OwnI (w : World) (B : Nat) (v : Value) (R : Nat → Int) (n : Nat) : Prop := w.ownsRow B 3 1 v n (iC R n)
theorem OwnI.lt {w : World} {B : Nat} {v : Value} {R : Nat → Int} {n : Nat} (h : OwnI w B v R n) {q : Nat} (hq : v.ownBlock = some q) : B ≤ q ∧ q < w.heap.size := by
  unfold OwnI at h
  exact h.lt q hq
theorem OwnI.kf {w w' : World} {B : Nat} {v : Value} {R : Nat → Int} {n : Nat} {l : List Nat} (h : OwnI w B v R n) (k : KF l w w') (hl : ∀ q, v.ownBlock = some q → q ∉ l) : OwnI w' B v R n := by
  refine ⟨h.1, ?_⟩
  rcases h.2 with hh | ⟨g, cap, cur, h1, h2, h3, h4⟩
  · exact .inl hh
  · exact .inr ⟨g, cap, cur, h1, h2, (k.k g (Array.getElem?_eq_some_iff.1 h3).1 (hl g (by rw [h1]; rfl))).trans h3, h4⟩
theorem OwnI.nil (w : World) (B : Nat) (R : Nat → Int) : OwnI w B (.slice none 0 0) R 0 := ⟨rfl, .inl ⟨rfl, rfl⟩⟩
theorem OwnI.blk {w : World} {B n c : Nat} {a : Option Addr} {R : Nat → Int} (h : OwnI w B (.slice a n c) R n) (hn : 0 < n) : ∃ g, a = some ⟨g, 0, none⟩ ∧ B ≤ g ∧ Blk w g (iC R n) := by
  unfold OwnI at h
  obtain ⟨g, cap, e, hb, hl⟩ := h.form hn
  cases e
  exact ⟨g, rfl, hb, fun i x hx => by
    have hi : i < (iC R n).length := (List.getElem?_eq_some_iff.1 hx).1
    rw [h.cellAt i (by rw [← h.1]; exact hi)]; exact hx, fun o => h.frozenAt o, hl⟩
theorem OwnB.blk {w : World} {B n c : Nat} {a : Option Addr} {R : Nat → Bool} (h : OwnB w B (.slice a n c) R n) (hn : 0 < n) : ∃ g, a = some ⟨g, 0, none⟩ ∧ B ≤ g ∧ Blk w g (bC R n) := by
  unfold OwnB at h
  obtain ⟨g, cap, e, hb, hl⟩ := h.form hn
  cases e
  exact ⟨g, rfl, hb, fun i x hx => by
    have hi : i < (bC R n).length := (List.getElem?_eq_some_iff.1 hx).1
    rw [h.cellAt i (by rw [← h.1]; exact hi)]; exact hx, fun o => h.frozenAt o, hl⟩
theorem wpList_appI {w : World} {ops : Array Oper} {rest : List Oper} {o : Oper} {a : Act} {Q : Exit → Act → World → Prop} (hgd : o.guard = none) (s x : Operand)
    (ho : o.op = .call { callee := .builtin .append, args := #[s, x], argTypes := #[22, 22] }) (B : Nat) (v : Value) (R : Nat → Int) (n : Nat) (hs : a.eval s = v) (hown : OwnI w B v R n) (hB : B ≤ w.heap.size)
    {q c : Nat} (hx : a.eval x = .slice (some ⟨q, 0, none⟩) 1 c) (hk : Blk w q [.int .i64 (R n)]) (hl : n ≤ 1000000)
    (h : ∀ (a' : Option Addr) (n' c' : Nat) w', OwnI w' B (.slice a' n' c') R (n + 1) → n' = n + 1 → w'.heap.size ≥ w.heap.size → w.grownBy w' v.ownBlock → ((Value.slice a' n' c').ownBlock = v.ownBlock ∨ (Value.slice a' n' c').ownBlock = some w.heap.size) → wpList Try.prog ops Q rest (a.put o.dst (.slice a' n' c')) w') : wpList Try.prog ops Q (o :: rest) a w := by
  obtain ⟨i0, hi0, hz0, hz1, hz2⟩ := info_parts info_int
  refine wpList_append_own_at w hgd s x 22 ho B 3 i0 _ 1 8 Try.underlying22 hi0 hz0 hz1 hz2 rfl (by omega) v n (iC R n) hs hown ⟨q, 0, none⟩ 1 c [.int .i64 (R n)] hx rfl (fun j u hj => ?_) (by intro u hu; simp at hu; rcases hu with rfl; rfl) (by unfold maxLen; omega) (by omega) hB (fun v' w' h1 h2 _ h4 => ?_)
  · have := hk.c j u hj
    rw [Addr.add_lit, Nat.zero_add]
    exact this
  · have h3 : OwnI w' B v' R (n + 1) := by
      unfold OwnI
      rw [iC_succ]
      exact h1
    rcases h3.2 with ⟨e, e2⟩ | ⟨g, cap, cur, e, _⟩
    · simp at e2
    · subst e
      exact h _ _ _ w' h3 rfl h2.size h2 h4
theorem wp_appI {w : World} {o : Oper} {a : Act} {K : Act → World → Prop} {Q : Exit → Act → World → Prop} (s x : Operand)
    (ho : o.op = .call { callee := .builtin .append, args := #[s, x], argTypes := #[22, 22] }) (B : Nat) (v : Value) (R : Nat → Int) (n : Nat) (hs : a.eval s = v) (hown : OwnI w B v R n) (hB : B ≤ w.heap.size)
    {q c : Nat} (hx : a.eval x = .slice (some ⟨q, 0, none⟩) 1 c) (hk : Blk w q [.int .i64 (R n)]) (hl : n ≤ 1000000)
    (h : ∀ (a' : Option Addr) (n' c' : Nat) w', OwnI w' B (.slice a' n' c') R (n + 1) → n' = n + 1 → w'.heap.size ≥ w.heap.size → w.grownBy w' v.ownBlock → ((Value.slice a' n' c').ownBlock = v.ownBlock ∨ (Value.slice a' n' c').ownBlock = some w.heap.size) → K (a.put o.dst (.slice a' n' c')) w') : o.wp Try.prog a w K Q := by
  obtain ⟨i0, hi0, hz0, hz1, hz2⟩ := info_parts info_int
  refine wp_append_lies w s x 22 ho B 3 i0 _ 1 8 Try.underlying22 hi0 hz0 hz1 hz2 rfl (by omega) v n (iC R n) hs hown ⟨q, 0, none⟩ 1 c [.int .i64 (R n)] hx rfl (fun j u hj => ?_) (by intro u hu; simp at hu; rcases hu with rfl; rfl) (by omega) (by unfold maxLen; omega) (by omega) hB _ rfl (fun g cap w' h1 h2 h3 h4 => ?_)
  · have := hk.c j u hj
    rw [Addr.add_lit, Nat.zero_add]
    exact this
  · refine h (some ⟨g, 0, none⟩) (n + 1) cap w' ?_ rfl h2.size h2 ?_
    · unfold OwnI
      rw [iC_succ]
      exact h1
    · rcases h3 with e | e
      · exact .inl e.symm
      · subst e; exact .inr rfl
/-- The reference's scheduler while it is made. -/
structure NS (w : World) (r iw is id : Nat) (W : Nat → Int) (s : Int) (wv : Option Addr) (wc : Nat) (sv : Option Addr) (sc : Nat) (dv : Option Addr) (dc : Nat) : Prop where
  b : Blk w r [.slice wv iw wc, .int .i64 s, .int .i64 0, .slice none 0 0, .slice sv is sc, .slice dv id dc]
  ow : OwnI w (r + 1) (.slice wv iw wc) W iw
  os : OwnI w (r + 1) (.slice sv is sc) nz is
  od : OwnB w (r + 1) (.slice dv id dc) nof id
  d1 : ∀ q, (Value.slice wv iw wc).ownBlock = some q → (Value.slice sv is sc).ownBlock ≠ some q
  d2 : ∀ q, (Value.slice wv iw wc).ownBlock = some q → (Value.slice dv id dc).ownBlock ≠ some q
  d3 : ∀ q, (Value.slice sv is sc).ownBlock = some q → (Value.slice dv id dc).ownBlock ≠ some q
variable {w w' u : World} {r iw is id : Nat} {W : Nat → Int} {s : Int} {wv : Option Addr} {wc : Nat} {sv : Option Addr} {sc : Nat} {dv : Option Addr} {dc : Nat}
theorem NS.kf (h : NS w r iw is id W s wv wc sv sc dv dc) (k : KF [] w w') : NS w' r iw is id W s wv wc sv sc dv dc :=
  ⟨k.blk h.b (by simp), h.ow.kf k (fun q _ => by simp), h.os.kf k (fun q _ => by simp), h.od.kf k (fun q _ => by simp), h.d1, h.d2, h.d3⟩
theorem kset {u : World} {r o : Nat} (v : Value) : KF [r] u (u.setCell ⟨r, o, none⟩ v) := (KF.refl [r] u).set (p := ⟨r, o, none⟩) (.inl (by simp)) v
theorem NS.setS (h : NS w r iw is id W s wv wc sv sc dv dc) (s2 : Int) : NS (w.setCell ⟨r, 1, none⟩ (.int .i64 s2)) r iw is id W s2 wv wc sv sc dv dc :=
  ⟨h.b.set (i := 1) (by simp) _, h.ow.kf (kset _) (fun q e => by have := (h.ow.lt e).1; simp; omega), h.os.kf (kset _) (fun q e => by have := (h.os.lt e).1; simp; omega), h.od.kf (kset _) (fun q e => by have := (h.od.lt e).1; simp; omega), h.d1, h.d2, h.d3⟩
theorem grownK {u w5 : World} {b : Option Nat} (g : u.grownBy w5 b) : KF b.toList u w5 := KF.grown2 (KF.refl _ u) g (fun q e => by rw [e]; simp)
theorem NS.appW (h : NS u r iw is id W s wv wc sv sc dv dc) {w5 : World} {a5 : Option Addr} {c5 : Nat} (ho : OwnI w5 (r + 1) (.slice a5 (iw + 1) c5) W (iw + 1)) (g : u.grownBy w5 (Value.slice wv iw wc).ownBlock)
    (hor : (Value.slice a5 (iw + 1) c5).ownBlock = (Value.slice wv iw wc).ownBlock ∨ (Value.slice a5 (iw + 1) c5).ownBlock = some u.heap.size) : NS (w5.setCell ⟨r, 0, none⟩ (.slice a5 (iw + 1) c5)) r (iw + 1) is id W s a5 c5 sv sc dv dc := by
  have k := grownK g
  have hm : ∀ x, x ∈ (Value.slice wv iw wc).ownBlock.toList → (Value.slice wv iw wc).ownBlock = some x := fun x hx => by simpa using hx
  have hb := k.blk h.b (fun e => by have := (h.ow.lt (hm _ e)).1; omega)
  have hS := h.os.kf k (fun q e e2 => h.d1 q (hm _ e2) e)
  have hD := h.od.kf k (fun q e e2 => h.d2 q (hm _ e2) e)
  refine ⟨hb.set (i := 0) (by simp) _, ho.kf (kset _) (fun q e => by have := (ho.lt e).1; simp; omega), hS.kf (kset _) (fun q e => by have := (hS.lt e).1; simp; omega), hD.kf (kset _) (fun q e => by have := (hD.lt e).1; simp; omega), fun q e e2 => ?_, fun q e e2 => ?_, h.d3⟩
  · rcases hor with e3 | e3
    · rw [e3] at e; exact h.d1 q e e2
    · rw [e3] at e; cases e; have := (h.os.lt e2).2; omega
  · rcases hor with e3 | e3
    · rw [e3] at e; exact h.d2 q e e2
    · rw [e3] at e; cases e; have := (h.od.lt e2).2; omega
theorem NS.appS (h : NS u r iw is id W s wv wc sv sc dv dc) {w5 : World} {a5 : Option Addr} {c5 : Nat} (ho : OwnI w5 (r + 1) (.slice a5 (is + 1) c5) nz (is + 1)) (g : u.grownBy w5 (Value.slice sv is sc).ownBlock)
    (hor : (Value.slice a5 (is + 1) c5).ownBlock = (Value.slice sv is sc).ownBlock ∨ (Value.slice a5 (is + 1) c5).ownBlock = some u.heap.size) : NS (w5.setCell ⟨r, 4, none⟩ (.slice a5 (is + 1) c5)) r iw (is + 1) id W s wv wc a5 c5 dv dc := by
  have k := grownK g
  have hm : ∀ x, x ∈ (Value.slice sv is sc).ownBlock.toList → (Value.slice sv is sc).ownBlock = some x := fun x hx => by simpa using hx
  have hb := k.blk h.b (fun e => by have := (h.os.lt (hm _ e)).1; omega)
  have hW := h.ow.kf k (fun q e e2 => h.d1 q e (hm _ e2))
  have hD := h.od.kf k (fun q e e2 => h.d3 q (hm _ e2) e)
  refine ⟨hb.set (i := 4) (by simp) _, hW.kf (kset _) (fun q e => by have := (hW.lt e).1; simp; omega), ho.kf (kset _) (fun q e => by have := (ho.lt e).1; simp; omega), hD.kf (kset _) (fun q e => by have := (hD.lt e).1; simp; omega), fun q e e2 => ?_, h.d2, fun q e e2 => ?_⟩
  · rcases hor with e3 | e3
    · rw [e3] at e2; exact h.d1 q e e2
    · rw [e3] at e2; cases e2; have := (h.ow.lt e).2; omega
  · rcases hor with e3 | e3
    · rw [e3] at e; exact h.d3 q e e2
    · rw [e3] at e; cases e; have := (h.od.lt e2).2; omega
theorem NS.appD (h : NS u r iw is id W s wv wc sv sc dv dc) {w5 : World} {a5 : Option Addr} {c5 : Nat} (ho : OwnB w5 (r + 1) (.slice a5 (id + 1) c5) nof (id + 1)) (g : u.grownBy w5 (Value.slice dv id dc).ownBlock)
    (hor : (Value.slice a5 (id + 1) c5).ownBlock = (Value.slice dv id dc).ownBlock ∨ (Value.slice a5 (id + 1) c5).ownBlock = some u.heap.size) : NS (w5.setCell ⟨r, 5, none⟩ (.slice a5 (id + 1) c5)) r iw is (id + 1) W s wv wc sv sc a5 c5 := by
  have k := grownK g
  have hm : ∀ x, x ∈ (Value.slice dv id dc).ownBlock.toList → (Value.slice dv id dc).ownBlock = some x := fun x hx => by simpa using hx
  have hb := k.blk h.b (fun e => by have := (h.od.lt (hm _ e)).1; omega)
  have hW := h.ow.kf k (fun q e e2 => h.d2 q e (hm _ e2))
  have hS := h.os.kf k (fun q e e2 => h.d3 q e (hm _ e2))
  refine ⟨hb.set (i := 5) (by simp) _, hW.kf (kset _) (fun q e => by have := (hW.lt e).1; simp; omega), hS.kf (kset _) (fun q e => by have := (hS.lt e).1; simp; omega), ho.kf (kset _) (fun q e => by have := (ho.lt e).1; simp; omega), h.d1, fun q e e2 => ?_, fun q e e2 => ?_⟩
  · rcases hor with e3 | e3
    · rw [e3] at e2; exact h.d2 q e e2
    · rw [e3] at e2; cases e2; have := (h.ow.lt e).2; omega
  · rcases hor with e3 | e3
    · rw [e3] at e2; exact h.d3 q e e2
    · rw [e3] at e2; cases e2; have := (h.os.lt e).2; omega
end Fa
end Go.Proofs.Ytbbcongfaoopcaa
namespace Go.Proofs.Ytbbcongfaoopcaa
open Go.ChangeShapes Go.WideShapes Go.ChangeAt Go.RowKit Go.Maps
set_option linter.unusedVariables false
set_option linter.unusedSimpArgs false
open BigFrame Pk Fq Vr Fa

namespace Fa
def NewRF (N : Nat) (g : Nat → Int) (w : World) (e : Ending) (w' : World) : Prop :=
  ∃ B tb ct, e = .returned (.tuple #[.pointer (some ⟨B.r, 0, none⟩), .int .i64 0]) ∧ RF w' B tb ct N (sumW g N) 0 g nz nof nz nz ∧ w.heap.size ≤ B.r ∧ w.heap.size ≤ B.wb ∧ w.heap.size ≤ B.sb ∧ w.heap.size ≤ B.db ∧ w.heap.size ≤ tb ∧ Below w.heap.size w w'
theorem NS.keepW {u : World} {r iw is id : Nat} {W : Nat → Int} {s : Int} {wv : Option Addr} {wc : Nat} {sv : Option Addr} {sc : Nat} {dv : Option Addr} {dc : Nat} (h : NS u r iw is id W s wv wc sv sc dv dc) {w5 : World} {x : Option Nat} (g : u.grownBy w5 x) (hx : ∀ q, x = some q → r < q) :
    Blk w5 r [.slice wv iw wc, .int .i64 s, .int .i64 0, .slice none 0 0, .slice sv is sc, .slice dv id dc] :=
  (grownK g).blk h.b (fun e => by have := hx _ (by simpa using e); omega)
theorem own_lt {w : World} {B : Nat} {v : Value} {R : Nat → Int} {n : Nat} (h : OwnI w (B + 1) v R n) (q : Nat) (e : v.ownBlock = some q) : B < q := by have := (h.lt e).1; omega
theorem ownb_lt {w : World} {B : Nat} {v : Value} {R : Nat → Bool} {n : Nat} (h : OwnB w (B + 1) v R n) (q : Nat) (e : v.ownBlock = some q) : B < q := by have := (h.lt e).1; omega
end Fa

set_option maxRecDepth 100000 in
set_option maxHeartbeats 8000000 in
theorem rfnew_ok (w : World) (b off N c : Nat) (g : Nat → Int) (h1 : 1 ≤ N) (h8 : N ≤ 8) (hb : b < w.heap.size) (hc : ∀ i, i < N → w.cell? ⟨b, off + i, none⟩ = some (.int .i64 (g i))) (hg : ∀ i, i < N → 1 ≤ g i ∧ g i ≤ 16) :
    Calls Try.prog 14 #[.slice (some ⟨b, off, none⟩) N c] w (NewRF N g w) := by
  have hN1 : ¬ (N : Int) < 1 := by omega
  have hN8 : ¬ (8 : Int) < (N : Int) := by omega
  replace hc := Lib.hid hc
  replace hg := Lib.hid hg
  have fb := blkN_new w [.slice none 0 0, .int .i64 0, .int .i64 0, .slice none 0 0, .slice none 0 0, .slice none 0 0] 54
  have hB0 := (Below.refl w.heap.size w).alloc (Nat.le_refl _) (.cells #[.slice none 0 0, .int .i64 0, .int .i64 0, .slice none 0 0, .slice none 0 0, .slice none 0 0] 54)
  go_enter Try.func14, Try.ntmps14
  go_upto_region 4 with fail
  generalize hW1 : w.alloc (.cells #[.slice none 0 0, .int .i64 0, .int .i64 0, .slice none 0 0, .slice none 0 0, .slice none 0 0] 54) = W1
  replace fb : Blk W1 w.heap.size [.slice none 0 0, .int .i64 0, .int .i64 0, .slice none 0 0, .slice none 0 0, .slice none 0 0] := by rw [← hW1]; exact fb
  rw [hW1] at hB0
  clear hW1
  obtain ⟨r, hr⟩ : ∃ r, RowKit.Hid (w.heap.size = r) := ⟨_, Lib.hid rfl⟩
  rw [hr.out] at fb ⊢
  have hN0 : RowKit.Hid (NS W1 r 0 0 0 g (sumW g 0) none 0 none 0 none 0) := Lib.hid ⟨fb, OwnI.nil _ _ _, OwnI.nil _ _ _, OwnB.nil _ _ _, (fun q e => by cases e), (fun q e => by cases e), (fun q e => by cases e)⟩
  replace hB0 := Lib.hid hB0
  clear fb
  go_wp2_with fail
  go_loopw [2, 3, 5] (fun _ _ s5 wr => ∃ (i : Nat) (wv : Option Addr) (wc : Nat) (sv : Option Addr) (sc : Nat) (dv : Option Addr) (dc : Nat), s5 = .int .i64 (i : Nat) ∧ i ≤ N ∧ RowKit.Hid (NS wr r i i i g (sumW g i) wv wc sv sc dv dc) ∧ RowKit.Hid (Below r w wr)) (fun _ _ s5 _ => N - (intOf s5).toNat)
  case atStart => exact ⟨0, none, 0, none, 0, none, 0, rfl, Nat.zero_le _, hN0, Lib.hid (by rw [← hr.out]; exact hB0.out)⟩
  case round =>
    obtain ⟨i, wv, wc, sv, sc, dv, dc, rfl, hi, hS, hK⟩ := hrel
    have ii : (i : Int) ≤ (N : Int) := by omega
    by_cases hlt : i < N
    · have ii1 : (i : Int) < (N : Int) := by omega
      have hbr : b < r := by rw [← hr.out]; exact hb
      have x0 := (hK.out.cell (p := ⟨b, off + i, none⟩) hbr).trans (hc.out i hlt)
      have hgi := hg.out i hlt
      have sb := sumW_b hg.out i (by omega)
      have hs2 := Lib.hid (show sumW g (i + 1) = sumW g i + g i from rfl)
      obtain ⟨y, hy⟩ : ∃ y, RowKit.Hid (g i = y) := ⟨_, Lib.hid rfl⟩
      obtain ⟨s, hs⟩ : ∃ s, RowKit.Hid (sumW g i = s) := ⟨_, Lib.hid rfl⟩
      rw [hy.out] at x0 hgi
      rw [hs.out] at sb hS
      obtain ⟨g1, g2⟩ := hgi
      obtain ⟨s3, s4⟩ := sb
      have g3 : ¬ y < 1 := by omega
      have g4 : ¬ 16 < y := by omega
      have hwrap : IntKind.i64.wrap (s + y) = s + y := IntWalk.i64_in _ (by omega)
      have b0 := hS.out.b.c 0 _ rfl
      have hrl := hS.out.b.l
      go_upto_region 9 with fail
      refine wp_region_noPanic ?_
      refine Stg.wp_region_L [10, 13] (Vr.SB wr) (by kernel_rfl) (fun _ => (Below.refl _ _).drew) (fun hHeld => ?_)
      refine Stg.wpAnyL_start (n' := 14) (l' := #[false, false, false, false, false, false, false, false, false, false, false, false, false, false]) (by kernel_rfl) (by kernel_rfl) ?_
      refine Stg.wpAnyL_free (i := 0) (v := ?_) 0 rfl (by kernel_rfl) (by kernel_rfl) (by kernel_rfl) (by kernel_rfl) (by kernel_rfl) (fun _ _ _ h => h) (Or.inl ⟨by kernel_rfl, ?_⟩) (by assumption) ?_
      rotate_left
      · intro u _
        try simp only [List.getElem_toArray, List.getElem_cons_succ, List.getElem_cons_zero]
        go_simp
        try with_reducible rfl
      try simp only [Act.put, List.setIfInBounds_toArray, List.set_cons_zero, List.set_cons_succ]
      refine Stg.wpAnyL_free (i := 1) (v := ?_) 0 rfl (by kernel_rfl) (by kernel_rfl) (by kernel_rfl) (by kernel_rfl) (by kernel_rfl) (fun _ _ _ h => h) (Or.inl ⟨by kernel_rfl, ?_⟩) (by assumption) ?_
      rotate_left
      · intro u _
        try simp only [List.getElem_toArray, List.getElem_cons_succ, List.getElem_cons_zero]
        go_simp
        try with_reducible rfl
      try simp only [Act.put, List.setIfInBounds_toArray, List.set_cons_zero, List.set_cons_succ]
      refine Stg.wpAnyL_free (i := 2) (v := ?_) 0 rfl (by kernel_rfl) (by kernel_rfl) (by kernel_rfl) (by kernel_rfl) (by kernel_rfl) (fun _ _ _ h => h) (Or.inl ⟨by kernel_rfl, ?_⟩) (by assumption) ?_
      rotate_left
      · intro u _
        try simp only [List.getElem_toArray, List.getElem_cons_succ, List.getElem_cons_zero]
        go_simp
        try with_reducible rfl
      try simp only [Act.put, List.setIfInBounds_toArray, List.set_cons_zero, List.set_cons_succ]
      refine Stg.wpAnyL_start (n' := 11) (l' := #[true, true, true, false, false, false, false, false, false, false, false, false, false, false]) (by kernel_rfl) (by kernel_rfl) ?_
      refine Stg.wpAnyL_free (i := 3) (v := ?_) 0 rfl (by kernel_rfl) (by kernel_rfl) (by kernel_rfl) (by kernel_rfl) (by kernel_rfl) (fun _ _ _ h => h) (Or.inl ⟨by kernel_rfl, ?_⟩) (by assumption) ?_
      rotate_left
      · intro u _
        try simp only [List.getElem_toArray, List.getElem_cons_succ, List.getElem_cons_zero]
        go_simp
        try with_reducible rfl
      try simp only [Act.put, List.setIfInBounds_toArray, List.set_cons_zero, List.set_cons_succ]
      refine Stg.wpAnyL_take (i := 4) (v := ?_) [10, 11, 12, 13] 0 rfl (by kernel_rfl) (by kernel_rfl) (by kernel_rfl) (by kernel_rfl) (by kernel_rfl) (fun _ _ _ h => h) (Or.inl ⟨by kernel_rfl, ?_⟩) (by assumption) ?_
      rotate_left
      · intro u hSu
        skip
        have sB := hSu rfl
        have y0 := cellB sB x0
        have y1 := cellB sB b0
        try simp only [List.getElem_toArray, List.getElem_cons_succ, List.getElem_cons_zero]
        go_simp
        try with_reducible rfl
      try simp only [Act.put, List.setIfInBounds_toArray, List.set_cons_zero, List.set_cons_succ]
      refine Stg.wpAnyL_free (i := 5) (v := ?_) 0 rfl (by kernel_rfl) (by kernel_rfl) (by kernel_rfl) (by kernel_rfl) (by kernel_rfl) (fun _ _ _ h => h) (Or.inl ⟨by kernel_rfl, ?_⟩) (by assumption) ?_
      rotate_left
      · intro u _
        try simp only [List.getElem_toArray, List.getElem_cons_succ, List.getElem_cons_zero]
        go_simp
        try with_reducible rfl
      try simp only [Act.put, List.setIfInBounds_toArray, List.set_cons_zero, List.set_cons_succ]
      refine Stg.wpAnyL_start (n' := 8) (l' := #[true, true, true, true, true, true, false, false, false, false, false, false, false, false]) (by kernel_rfl) (by kernel_rfl) ?_
      refine Stg.wpAnyL_free (i := 6) (v := ?_) 0 rfl (by kernel_rfl) (by kernel_rfl) (by kernel_rfl) (by kernel_rfl) (by kernel_rfl) (fun _ _ _ h => h) (Or.inl ⟨by kernel_rfl, ?_⟩) (by assumption) ?_
      rotate_left
      · intro u _
        try simp only [List.getElem_toArray, List.getElem_cons_succ, List.getElem_cons_zero]
        go_simp
        try with_reducible rfl
      try simp only [Act.put, List.setIfInBounds_toArray, List.set_cons_zero, List.set_cons_succ]
      refine Stg.wpAnyL_free (i := 7) (v := ?_) 0 rfl (by kernel_rfl) (by kernel_rfl) (by kernel_rfl) (by kernel_rfl) (by kernel_rfl) (fun _ _ _ h => h) (Or.inl ⟨by kernel_rfl, ?_⟩) (by assumption) ?_
      rotate_left
      · intro u _
        try simp only [List.getElem_toArray, List.getElem_cons_succ, List.getElem_cons_zero]
        go_simp
        try with_reducible rfl
      try simp only [Act.put, List.setIfInBounds_toArray, List.set_cons_zero, List.set_cons_succ]
      refine Stg.wpAnyL_take (i := 8) (v := ?_) [9, 10, 11, 12, 13] 0 rfl (by kernel_rfl) (by kernel_rfl) (by kernel_rfl) (by kernel_rfl) (by kernel_rfl) (fun _ _ _ h => h) (Or.inl ⟨by kernel_rfl, ?_⟩) (by assumption) ?_
      rotate_left
      · intro u hSu
        skip
        have sB := hSu rfl
        have y0 := cellB sB x0
        have y1 := cellB sB b0
        try simp only [List.getElem_toArray, List.getElem_cons_succ, List.getElem_cons_zero]
        go_simp
        try with_reducible rfl
      try simp only [Act.put, List.setIfInBounds_toArray, List.set_cons_zero, List.set_cons_succ]
      refine Stg.wpAnyL_start (n' := 5) (l' := #[true, true, true, true, true, true, true, true, true, false, false, false, false, false]) (by kernel_rfl) (by kernel_rfl) ?_
      refine Stg.wpAnyL_one (i := 9) 0 rfl (by kernel_rfl) (by kernel_rfl) (fun K hK => ?_)
      try simp only [List.getElem_toArray, List.getElem_cons_succ, List.getElem_cons_zero]
      go_simp
      refine hK.out _ _ ?_ (fun hHeld1 => ?_)
      · exact fun _ => bNext (hHeld rfl) ((Below.refl _ _).alloc (Nat.le_refl _) _) (Nat.le_refl _)
      clear hK K
      try simp only [Act.put, List.setIfInBounds_toArray, List.set_cons_zero, List.set_cons_succ]
      refine Stg.wpAnyL_one (i := 10) 1 rfl (by kernel_rfl) (by kernel_rfl) (fun K hK => ?_)
      try simp only [List.getElem_toArray, List.getElem_cons_succ, List.getElem_cons_zero]
      rw [if_pos (by kernel_rfl)]
      refine wp_appI (.tmp 38) (.tmp 43) rfl (r + 1) (.slice wv i wc) g i (by kernel_rfl) (hS.out.ow.kf (KF.of (l := []) (hHeld1 rfl)) (fun q _ => by simp)) (by have := (hHeld1 rfl).size; omega) (q := wr.drew.heap.size) (c := 1) (by kernel_rfl) (by rw [hy.out]; exact blkN_new wr.drew [.int .i64 y] 3) (by omega) ?_
      intro a5 n5 c5 w5 hown5 hn5 hsz5 hgrow5 hor5
      obtain rfl : n5 = i + 1 := hn5
      have hU := hS.out.kf (KF.of (l := []) (hHeld1 rfl))
      refine hK.out _ _ ?_ (fun hHeld2 => ?_)
      · exact fun h => absurd h (by decide)
      clear hK K
      try simp only [Act.put, List.setIfInBounds_toArray, List.set_cons_zero, List.set_cons_succ]
      refine Stg.wpAnyL_free (i := 11) (v := ?_) 1 rfl (by kernel_rfl) (by kernel_rfl) (by kernel_rfl) (by kernel_rfl) (by kernel_rfl) (fun _ _ _ h => h) (Or.inl ⟨by kernel_rfl, ?_⟩) (by assumption) ?_
      rotate_left
      · intro u _
        try simp only [List.getElem_toArray, List.getElem_cons_succ, List.getElem_cons_zero]
        go_simp
        try with_reducible rfl
      try simp only [Act.put, List.setIfInBounds_toArray, List.set_cons_zero, List.set_cons_succ]
      refine Stg.wpAnyL_start (n' := 2) (l' := #[true, true, true, true, true, true, true, true, true, true, true, true, false, false]) (by kernel_rfl) (by kernel_rfl) ?_
      refine Stg.wpAnyL_free (i := 12) (v := ?_) 1 rfl (by kernel_rfl) (by kernel_rfl) (by kernel_rfl) (by kernel_rfl) (by kernel_rfl) (fun _ _ _ h => h) (Or.inl ⟨by kernel_rfl, ?_⟩) (by assumption) ?_
      rotate_left
      · intro u _
        try simp only [List.getElem_toArray, List.getElem_cons_succ, List.getElem_cons_zero]
        go_simp
        try with_reducible rfl
      try simp only [Act.put, List.setIfInBounds_toArray, List.set_cons_zero, List.set_cons_succ]
      refine Stg.wpAnyL_one (i := 13) 2 rfl (by kernel_rfl) (by kernel_rfl) (fun K hK => ?_)
      have hb5 := hU.keepW hgrow5 (own_lt hU.ow)
      have z0 := hb5.f 0
      have z1 := hb5.c 0 _ rfl
      try simp only [List.getElem_toArray, List.getElem_cons_succ, List.getElem_cons_zero]
      go_simp
      refine hK.out _ _ ?_ (fun hHeld3 => ?_)
      · exact fun h => absurd h (by decide)
      clear hK K
      try simp only [Act.put, List.setIfInBounds_toArray, List.set_cons_zero, List.set_cons_succ]
      refine Stg.wpAnyL_done (by kernel_rfl) ?_ _
      try simp only [List.getElem_toArray, List.getElem_cons_succ, List.getElem_cons_zero]
      try simp only [Act.put, List.setIfInBounds_toArray, List.set_cons_zero, List.set_cons_succ]
      refine NoPanic.normal ?_
      have hS6 := Lib.hid (hU.appW hown5 hgrow5 hor5)
      have hK6 := Lib.hid (((hK.out.trans ((hHeld1 rfl).mono (by omega))).grown hgrow5 (by have := (hHeld1 rfl).size; omega) (fun q e => by have := (hU.ow.lt e).1; omega)).setCell (p := ⟨r, 0, none⟩) (Nat.le_refl _) (.slice a5 (i + 1) c5))
      clear z0 z1 hb5 hU hown5 hgrow5 hor5 hsz5 b0 x0 hHeld hS hK
      go_upto_region 10 with fail
      generalize w5.setCell ⟨r, 0, none⟩ (.slice a5 (i + 1) c5) = w6 at hS6 hK6 ⊢
      have x0 := (hK6.out.cell (p := ⟨b, off + i, none⟩) hbr).trans (hc.out i hlt)
      rw [hy.out] at x0
      have b1 := hS6.out.b.c 1 _ rfl
      refine wp_region_noPanic ?_
      refine Stg.wp_region_L [12] (Vr.SB w6) (by kernel_rfl) (fun _ => (Below.refl _ _).drew) (fun hHeld => ?_)
      refine Stg.wpAnyL_start (n' := 13) (l' := #[false, false, false, false, false, false, false, false, false, false, false, false, false]) (by kernel_rfl) (by kernel_rfl) ?_
      refine Stg.wpAnyL_free (i := 0) (v := ?_) 0 rfl (by kernel_rfl) (by kernel_rfl) (by kernel_rfl) (by kernel_rfl) (by kernel_rfl) (fun _ _ _ h => h) (Or.inl ⟨by kernel_rfl, ?_⟩) (by assumption) ?_
      rotate_left
      · intro u _
        try simp only [List.getElem_toArray, List.getElem_cons_succ, List.getElem_cons_zero]
        go_simp
        try with_reducible rfl
      try simp only [Act.put, List.setIfInBounds_toArray, List.set_cons_zero, List.set_cons_succ]
      refine Stg.wpAnyL_free (i := 1) (v := ?_) 0 rfl (by kernel_rfl) (by kernel_rfl) (by kernel_rfl) (by kernel_rfl) (by kernel_rfl) (fun _ _ _ h => h) (Or.inl ⟨by kernel_rfl, ?_⟩) (by assumption) ?_
      rotate_left
      · intro u _
        try simp only [List.getElem_toArray, List.getElem_cons_succ, List.getElem_cons_zero]
        go_simp
        try with_reducible rfl
      try simp only [Act.put, List.setIfInBounds_toArray, List.set_cons_zero, List.set_cons_succ]
      refine Stg.wpAnyL_free (i := 2) (v := ?_) 0 rfl (by kernel_rfl) (by kernel_rfl) (by kernel_rfl) (by kernel_rfl) (by kernel_rfl) (fun _ _ _ h => h) (Or.inl ⟨by kernel_rfl, ?_⟩) (by assumption) ?_
      rotate_left
      · intro u _
        try simp only [List.getElem_toArray, List.getElem_cons_succ, List.getElem_cons_zero]
        go_simp
        try with_reducible rfl
      try simp only [Act.put, List.setIfInBounds_toArray, List.set_cons_zero, List.set_cons_succ]
      refine Stg.wpAnyL_start (n' := 10) (l' := #[true, true, true, false, false, false, false, false, false, false, false, false, false]) (by kernel_rfl) (by kernel_rfl) ?_
      refine Stg.wpAnyL_free (i := 3) (v := ?_) 0 rfl (by kernel_rfl) (by kernel_rfl) (by kernel_rfl) (by kernel_rfl) (by kernel_rfl) (fun _ _ _ h => h) (Or.inl ⟨by kernel_rfl, ?_⟩) (by assumption) ?_
      rotate_left
      · intro u _
        try simp only [List.getElem_toArray, List.getElem_cons_succ, List.getElem_cons_zero]
        go_simp
        try with_reducible rfl
      try simp only [Act.put, List.setIfInBounds_toArray, List.set_cons_zero, List.set_cons_succ]
      refine Stg.wpAnyL_take (i := 4) (v := ?_) [9, 10, 11, 12] 0 rfl (by kernel_rfl) (by kernel_rfl) (by kernel_rfl) (by kernel_rfl) (by kernel_rfl) (fun _ _ _ h => h) (Or.inl ⟨by kernel_rfl, ?_⟩) (by assumption) ?_
      rotate_left
      · intro u hSu
        skip
        have sB := hSu rfl
        have y0 := cellB sB x0
        have y1 := cellB sB b1
        try simp only [List.getElem_toArray, List.getElem_cons_succ, List.getElem_cons_zero]
        go_simp
        try with_reducible rfl
      try simp only [Act.put, List.setIfInBounds_toArray, List.set_cons_zero, List.set_cons_succ]
      refine Stg.wpAnyL_free (i := 5) (v := ?_) 0 rfl (by kernel_rfl) (by kernel_rfl) (by kernel_rfl) (by kernel_rfl) (by kernel_rfl) (fun _ _ _ h => h) (Or.inl ⟨by kernel_rfl, ?_⟩) (by assumption) ?_
      rotate_left
      · intro u _
        try simp only [List.getElem_toArray, List.getElem_cons_succ, List.getElem_cons_zero]
        go_simp
        try with_reducible rfl
      try simp only [Act.put, List.setIfInBounds_toArray, List.set_cons_zero, List.set_cons_succ]
      refine Stg.wpAnyL_start (n' := 7) (l' := #[true, true, true, true, true, true, false, false, false, false, false, false, false]) (by kernel_rfl) (by kernel_rfl) ?_
      refine Stg.wpAnyL_free (i := 6) (v := ?_) 0 rfl (by kernel_rfl) (by kernel_rfl) (by kernel_rfl) (by kernel_rfl) (by kernel_rfl) (fun _ _ _ h => h) (Or.inl ⟨by kernel_rfl, ?_⟩) (by assumption) ?_
      rotate_left
      · intro u _
        try simp only [List.getElem_toArray, List.getElem_cons_succ, List.getElem_cons_zero]
        go_simp
        try with_reducible rfl
      try simp only [Act.put, List.setIfInBounds_toArray, List.set_cons_zero, List.set_cons_succ]
      refine Stg.wpAnyL_free (i := 7) (v := ?_) 0 rfl (by kernel_rfl) (by kernel_rfl) (by kernel_rfl) (by kernel_rfl) (by kernel_rfl) (fun _ _ _ h => h) (Or.inl ⟨by kernel_rfl, ?_⟩) (by assumption) ?_
      rotate_left
      · intro u _
        try simp only [List.getElem_toArray, List.getElem_cons_succ, List.getElem_cons_zero]
        go_simp
        try with_reducible rfl
      try simp only [Act.put, List.setIfInBounds_toArray, List.set_cons_zero, List.set_cons_succ]
      refine Stg.wpAnyL_take (i := 8) (v := ?_) [9, 10, 11, 12] 0 rfl (by kernel_rfl) (by kernel_rfl) (by kernel_rfl) (by kernel_rfl) (by kernel_rfl) (fun _ _ _ h => h) (Or.inl ⟨by kernel_rfl, ?_⟩) (by assumption) ?_
      rotate_left
      · intro u hSu
        skip
        have sB := hSu rfl
        have y0 := cellB sB x0
        have y1 := cellB sB b1
        try simp only [List.getElem_toArray, List.getElem_cons_succ, List.getElem_cons_zero]
        go_simp
        try with_reducible rfl
      try simp only [Act.put, List.setIfInBounds_toArray, List.set_cons_zero, List.set_cons_succ]
      refine Stg.wpAnyL_start (n' := 4) (l' := #[true, true, true, true, true, true, true, true, true, false, false, false, false]) (by kernel_rfl) (by kernel_rfl) ?_
      refine Stg.wpAnyL_free (i := 9) (v := ?_) 0 rfl (by kernel_rfl) (by kernel_rfl) (by kernel_rfl) (by kernel_rfl) (by kernel_rfl) (fun _ _ _ h => h) (Or.inl ⟨by kernel_rfl, ?_⟩) (by assumption) ?_
      rotate_left
      · intro u _
        try simp only [List.getElem_toArray, List.getElem_cons_succ, List.getElem_cons_zero]
        go_simp
        try with_reducible rfl
      try simp only [Act.put, List.setIfInBounds_toArray, List.set_cons_zero, List.set_cons_succ]
      refine Stg.wpAnyL_free (i := 10) (v := ?_) 0 rfl (by kernel_rfl) (by kernel_rfl) (by kernel_rfl) (by kernel_rfl) (by kernel_rfl) (fun _ _ _ h => h) (Or.inl ⟨by kernel_rfl, ?_⟩) (by assumption) ?_
      rotate_left
      · intro u _
        try simp only [List.getElem_toArray, List.getElem_cons_succ, List.getElem_cons_zero]
        go_simp
        try with_reducible rfl
      try simp only [Act.put, List.setIfInBounds_toArray, List.set_cons_zero, List.set_cons_succ]
      refine Stg.wpAnyL_free (i := 11) (v := ?_) 0 rfl (by kernel_rfl) (by kernel_rfl) (by kernel_rfl) (by kernel_rfl) (by kernel_rfl) (fun _ _ _ h => h) (Or.inl ⟨by kernel_rfl, ?_⟩) (by assumption) ?_
      rotate_left
      · intro u _
        try simp only [List.getElem_toArray, List.getElem_cons_succ, List.getElem_cons_zero]
        go_simp
        try with_reducible rfl
      try simp only [Act.put, List.setIfInBounds_toArray, List.set_cons_zero, List.set_cons_succ]
      refine Stg.wpAnyL_start (n' := 1) (l' := #[true, true, true, true, true, true, true, true, true, true, true, true, false]) (by kernel_rfl) (by kernel_rfl) ?_
      refine Stg.wpAnyL_one (i := 12) 1 rfl (by kernel_rfl) (by kernel_rfl) (fun K hK => ?_)
      have z0 := (hS6.out.kf (KF.of (l := []) (hHeld rfl))).b.f 1
      have z1 := (hS6.out.kf (KF.of (l := []) (hHeld rfl))).b.c 1 _ rfl
      try simp only [List.getElem_toArray, List.getElem_cons_succ, List.getElem_cons_zero]
      go_simp
      refine hK.out _ _ ?_ (fun hHeld1 => ?_)
      · exact fun h => absurd h (by decide)
      clear hK K
      try simp only [Act.put, List.setIfInBounds_toArray, List.set_cons_zero, List.set_cons_succ]
      refine Stg.wpAnyL_done (by kernel_rfl) ?_ _
      try simp only [List.getElem_toArray, List.getElem_cons_succ, List.getElem_cons_zero]
      try simp only [Act.put, List.setIfInBounds_toArray, List.set_cons_zero, List.set_cons_succ]
      refine NoPanic.normal ?_
      have hS7 := Lib.hid ((hS6.out.setS (s + y)).kf (KF.of (l := []) (Below.refl _ _).drew))
      have hK7 := Lib.hid ((hK6.out.setCell (p := ⟨r, 1, none⟩) (Nat.le_refl _) (.int .i64 (s + y))).drew)
      clear z0 z1 hS6 hK6 x0 b1 hHeld
      go_upto_region 11 with fail
      generalize (w6.setCell ⟨r, 1, none⟩ (.int .i64 (s + y))).drew = w7 at hS7 hK7 ⊢
      have b4 := hS7.out.b.c 4 _ rfl
      have ha := (Below.refl w7.heap.size w7).alloc (Nat.le_refl _) (.cells #[.int .i64 0] 3)
      have hU := Lib.hid (hS7.out.kf (KF.of (l := []) ha))
      have hbk := Lib.hid (blkN_new w7 [.int .i64 0] 3)
      have hrl7 := hS7.out.b.l
      have hszA := Lib.hid (show r + 1 ≤ (w7.alloc (.cells #[.int .i64 0] 3)).heap.size by simp; omega)
      have hKA := Lib.hid (hK7.out.alloc (by omega) (.cells #[.int .i64 0] 3))
      clear ha hS7 hK7
      go_upto_region 12 with (at_builtin; refine wpList_appI rfl _ _ rfl (r + 1) (.slice sv i sc) nz i (by rfl) hU.out.os hszA.out (by rfl) hbk.out (by omega) ?_; intro a8 n8 c8 w8 hown8 hn8 hsz8 hgrow8 hor8; obtain rfl : n8 = i + 1 := hn8; have hb8 := hU.out.keepW hgrow8 (own_lt hU.out.os); have z0 := hb8.f 4; have z1 := hb8.c 4 _ rfl; have hS8 := Lib.hid (hU.out.appS hown8 hgrow8 hor8); have hK8 := Lib.hid (((hKA.out).grown hgrow8 (by have := hszA.out; omega) (fun q e => by have := (hU.out.os.lt e).1; omega)).setCell (p := ⟨r, 4, none⟩) (Nat.le_refl _) (.slice a8 (i + 1) c8)); clear hb8 hown8 hgrow8 hor8 hsz8 hbk b4)
      clear z0 z1 hU hKA hszA
      generalize w8.setCell ⟨r, 4, none⟩ (.slice a8 (i + 1) c8) = w9 at hS8 hK8 ⊢
      have b5 := hS8.out.b.c 5 _ rfl
      have ha := (Below.refl w9.heap.size w9).alloc (Nat.le_refl _) (.cells #[.bool false] 4)
      have hU := Lib.hid (hS8.out.kf (KF.of (l := []) ha))
      have hbk := Lib.hid (blkN_new w9 [.bool false] 4)
      have hrl9 := hS8.out.b.l
      have hszA := Lib.hid (show r + 1 ≤ (w9.alloc (.cells #[.bool false] 4)).heap.size by simp; omega)
      have hKA := Lib.hid (hK8.out.alloc (by omega) (.cells #[.bool false] 4))
      clear ha hS8 hK8
      go_wp2_with (at_builtin; refine wpList_appB rfl _ _ rfl (r + 1) (.slice dv i dc) nof i (by rfl) hU.out.od hszA.out (by rfl) hbk.out (by omega) ?_; intro a10 n10 c10 w10 hown10 hn10 hsz10 hgrow10 hor10; obtain rfl : n10 = i + 1 := hn10; have hb10 := hU.out.keepW hgrow10 (ownb_lt hU.out.od); have z0 := hb10.f 5; have z1 := hb10.c 5 _ rfl; have hS10 := Lib.hid (hU.out.appD hown10 hgrow10 hor10); have hK10 := Lib.hid (((hKA.out).grown hgrow10 (by have := hszA.out; omega) (fun q e => by have := (hU.out.od.lt e).1; omega)).setCell (p := ⟨r, 5, none⟩) (Nat.le_refl _) (.slice a10 (i + 1) c10)); clear hb10 hown10 hgrow10 hor10 hsz10 hbk b5)
      go_roundw
      case rel => exact ⟨i + 1, a5, c5, a8, c8, a10, c10, by go_num, hlt, Lib.hid (by rw [hs2.out, hs.out, hy.out]; exact hS10.out), hK10⟩
      case measure => simp [intOf]; omega
    · obtain rfl : i = N := by omega
      obtain ⟨wb, rfl, hwb, bW⟩ := hS.out.ow.blk (by omega)
      obtain ⟨sb, rfl, hsb, bS⟩ := hS.out.os.blk (by omega)
      obtain ⟨db, rfl, hdb, bD⟩ := hS.out.od.blk (by omega)
      have d1 : wb ≠ sb := fun e => hS.out.d1 wb rfl (by rw [e]; rfl)
      have d2 : wb ≠ db := fun e => hS.out.d2 wb rfl (by rw [e]; rfl)
      have d3 : sb ≠ db := fun e => hS.out.d3 sb rfl (by rw [e]; rfl)
      have hb := hS.out.b
      have hrl := hb.l
      have hnew := Lib.hid (rnewF_ok i wr h1 h8)
      replace bW := Lib.hid bW
      replace bS := Lib.hid bS
      replace bD := Lib.hid bD
      replace hb := Lib.hid hb
      have hwl := bW.out.l
      have hsl := bS.out.l
      have hdl := bD.out.l
      clear hS
      go_wp2_with fail
      refine hnew.out.mono ?_
      rintro e w3 ⟨a3, g3, c3, rfl, T3, hg3, hb3⟩
      obtain rfl := T3.ha (by show 0 < i; omega)
      obtain ⟨hg3, hz3⟩ := hg3 (by show 0 < i; omega)
      replace T3 : TagsAt w3 (some ⟨g3, 0, none⟩) g3 0 i (fun _ => 0) (fun _ => 0) := T3
      have hr3 := hb.out.bel hb3
      have z0 := hr3.f 2
      have z1 := hr3.f 3
      have z2 := hr3.c 2 _ rfl
      have z3 := hr3.c 3 _ rfl
      have hRF : RowKit.Hid (RF ((w3.setCell ⟨r, 2, none⟩ (.int .i64 0)).setCell ⟨r, 3, none⟩ (.slice (some ⟨g3, 0, none⟩) i c3)) ⟨r, wb, wc, sb, sc, db, dc⟩ g3 c3 i (sumW g i) 0 g nz nof nz nz) := Lib.hid
        ⟨(hr3.set (i := 2) (by simp) (.int .i64 0)).set (i := 3) (by simp) _, ((bW.out.bel hb3).other (by omega) _).other (by omega) _, ((bS.out.bel hb3).other (by omega) _).other (by omega) _, ((bD.out.bel hb3).other (by omega) _).other (by omega) _, (T3.set_other (fun _ => by omega) _).set_other (fun _ => by omega) _,
          fun o => (World.frozen?_setCell _ _ _ _).trans ((World.frozen?_setCell _ _ _ _).trans (hz3 o)), by show r ≠ wb; omega, by show r ≠ sb; omega, by show r ≠ db; omega, by show r ≠ g3; omega, d1, d2, by show wb ≠ g3; omega, d3, by show sb ≠ g3; omega, by show db ≠ g3; omega, h1, h8⟩
      have hKF := Lib.hid (((hK.out.trans (hb3.mono (by omega))).setCell (p := ⟨r, 2, none⟩) (Nat.le_refl _) (.int .i64 0)).setCell (p := ⟨r, 3, none⟩) (Nat.le_refl _) (.slice (some ⟨g3, 0, none⟩) i c3))
      have hrr := hr.out
      clear hr3 T3 hz3 hb3 bW bS bD hb hnew
      go_wp2_with fail
      exact bodyPost_ret (v := .tuple #[.pointer (some ⟨r, 0, none⟩), .int .i64 0]) (by simp [results, Try.results14, go_sem]) rfl ⟨⟨r, wb, wc, sb, sc, db, dc⟩, g3, c3, rfl, hRF.out, by show w.heap.size ≤ r; omega, by show w.heap.size ≤ wb; omega, by show w.heap.size ≤ sb; omega, by show w.heap.size ≤ db; omega, by omega, by rw [hrr]; exact hKF.out⟩
end Go.Proofs.Ytbbcongfaoopcaa
namespace Go.Proofs.Ytbbcongfaoopcaa
open Go.ChangeShapes Go.WideShapes Go.ChangeAt Go.RowKit Go.Maps
set_option linter.unusedVariables false
set_option linter.unusedSimpArgs false
open BigFrame Pk Fq Vr Fa

set_option maxRecDepth 100000 in
set_option maxHeartbeats 4000000 in
theorem rfnew_len (w : World) (a : Option Addr) (N c : Nat) (h : N < 1 ∨ 8 < N) :
    Calls Try.prog 14 #[.slice a N c] w (NoNew w) := by
  by_cases k1 : (N : Int) < 1
  · clear h
    go_enter Try.func14, Try.ntmps14
    go_wp2_with fail
    exact bodyPost_ret (v := .tuple #[.pointer none, .int .i64 2]) (by simp [results, Try.results14, go_sem]) rfl ⟨rfl, Below.refl _ _⟩
  · have k2 : (8 : Int) < (N : Int) := by omega
    clear h
    go_enter Try.func14, Try.ntmps14
    go_wp2_with fail
    exact bodyPost_ret (v := .tuple #[.pointer none, .int .i64 2]) (by simp [results, Try.results14, go_sem]) rfl ⟨rfl, Below.refl _ _⟩

set_option maxRecDepth 100000 in
set_option maxHeartbeats 8000000 in
theorem rfnew_bad (w : World) (b off N c : Nat) (g : Nat → Int) (h1 : 1 ≤ N) (h8 : N ≤ 8) (hb : b < w.heap.size) (hc : ∀ i, i < N → w.cell? ⟨b, off + i, none⟩ = some (.int .i64 (g i))) (m : Nat) (hm : m < N) (hg : ∀ i, i < m → 1 ≤ g i ∧ g i ≤ 16) (hbad : g m < 1 ∨ 16 < g m) :
    Calls Try.prog 14 #[.slice (some ⟨b, off, none⟩) N c] w (NoNew w) := by
  have hN1 : ¬ (N : Int) < 1 := by omega
  have hN8 : ¬ (8 : Int) < (N : Int) := by omega
  replace hc := Lib.hid hc
  replace hg := Lib.hid hg
  replace hbad := Lib.hid hbad
  have fb := blkN_new w [.slice none 0 0, .int .i64 0, .int .i64 0, .slice none 0 0, .slice none 0 0, .slice none 0 0] 54
  have hB0 := (Below.refl w.heap.size w).alloc (Nat.le_refl _) (.cells #[.slice none 0 0, .int .i64 0, .int .i64 0, .slice none 0 0, .slice none 0 0, .slice none 0 0] 54)
  go_enter Try.func14, Try.ntmps14
  go_upto_region 4 with fail
  generalize hW1 : w.alloc (.cells #[.slice none 0 0, .int .i64 0, .int .i64 0, .slice none 0 0, .slice none 0 0, .slice none 0 0] 54) = W1
  replace fb : Blk W1 w.heap.size [.slice none 0 0, .int .i64 0, .int .i64 0, .slice none 0 0, .slice none 0 0, .slice none 0 0] := by rw [← hW1]; exact fb
  rw [hW1] at hB0
  clear hW1
  obtain ⟨r, hr⟩ : ∃ r, RowKit.Hid (w.heap.size = r) := ⟨_, Lib.hid rfl⟩
  rw [hr.out] at fb ⊢
  have hN0 : RowKit.Hid (NS W1 r 0 0 0 g (sumW g 0) none 0 none 0 none 0) := Lib.hid ⟨fb, OwnI.nil _ _ _, OwnI.nil _ _ _, OwnB.nil _ _ _, (fun q e => by cases e), (fun q e => by cases e), (fun q e => by cases e)⟩
  replace hB0 := Lib.hid hB0
  clear fb
  go_wp2_with fail
  go_loopw [2, 3, 5] (fun _ _ s5 wr => ∃ (i : Nat) (wv : Option Addr) (wc : Nat) (sv : Option Addr) (sc : Nat) (dv : Option Addr) (dc : Nat), s5 = .int .i64 (i : Nat) ∧ i ≤ m ∧ RowKit.Hid (NS wr r i i i g (sumW g i) wv wc sv sc dv dc) ∧ RowKit.Hid (Below r w wr)) (fun _ _ s5 _ => N - (intOf s5).toNat)
  case atStart => exact ⟨0, none, 0, none, 0, none, 0, rfl, Nat.zero_le _, hN0, Lib.hid (by rw [← hr.out]; exact hB0.out)⟩
  case round =>
    obtain ⟨i, wv, wc, sv, sc, dv, dc, rfl, hi, hS, hK⟩ := hrel
    have ii : (i : Int) ≤ (N : Int) := by omega
    by_cases hlt : i < m
    · have ii1 : (i : Int) < (N : Int) := by omega
      have hbr : b < r := by rw [← hr.out]; exact hb
      have x0 := (hK.out.cell (p := ⟨b, off + i, none⟩) hbr).trans (hc.out i (by omega))
      have hgi := hg.out i hlt
      have sb := sumW_b hg.out i (by omega)
      have hs2 := Lib.hid (show sumW g (i + 1) = sumW g i + g i from rfl)
      obtain ⟨y, hy⟩ : ∃ y, RowKit.Hid (g i = y) := ⟨_, Lib.hid rfl⟩
      obtain ⟨s, hs⟩ : ∃ s, RowKit.Hid (sumW g i = s) := ⟨_, Lib.hid rfl⟩
      rw [hy.out] at x0 hgi
      rw [hs.out] at sb hS
      obtain ⟨g1, g2⟩ := hgi
      obtain ⟨s3, s4⟩ := sb
      have g3 : ¬ y < 1 := by omega
      have g4 : ¬ 16 < y := by omega
      have hwrap : IntKind.i64.wrap (s + y) = s + y := IntWalk.i64_in _ (by omega)
      have b0 := hS.out.b.c 0 _ rfl
      have hrl := hS.out.b.l
      go_upto_region 9 with fail
      refine wp_region_noPanic ?_
      refine Stg.wp_region_L [10, 13] (Vr.SB wr) (by kernel_rfl) (fun _ => (Below.refl _ _).drew) (fun hHeld => ?_)
      refine Stg.wpAnyL_start (n' := 14) (l' := #[false, false, false, false, false, false, false, false, false, false, false, false, false, false]) (by kernel_rfl) (by kernel_rfl) ?_
      refine Stg.wpAnyL_free (i := 0) (v := ?_) 0 rfl (by kernel_rfl) (by kernel_rfl) (by kernel_rfl) (by kernel_rfl) (by kernel_rfl) (fun _ _ _ h => h) (Or.inl ⟨by kernel_rfl, ?_⟩) (by assumption) ?_
      rotate_left
      · intro u _
        try simp only [List.getElem_toArray, List.getElem_cons_succ, List.getElem_cons_zero]
        go_simp
        try with_reducible rfl
      try simp only [Act.put, List.setIfInBounds_toArray, List.set_cons_zero, List.set_cons_succ]
      refine Stg.wpAnyL_free (i := 1) (v := ?_) 0 rfl (by kernel_rfl) (by kernel_rfl) (by kernel_rfl) (by kernel_rfl) (by kernel_rfl) (fun _ _ _ h => h) (Or.inl ⟨by kernel_rfl, ?_⟩) (by assumption) ?_
      rotate_left
      · intro u _
        try simp only [List.getElem_toArray, List.getElem_cons_succ, List.getElem_cons_zero]
        go_simp
        try with_reducible rfl
      try simp only [Act.put, List.setIfInBounds_toArray, List.set_cons_zero, List.set_cons_succ]
      refine Stg.wpAnyL_free (i := 2) (v := ?_) 0 rfl (by kernel_rfl) (by kernel_rfl) (by kernel_rfl) (by kernel_rfl) (by kernel_rfl) (fun _ _ _ h => h) (Or.inl ⟨by kernel_rfl, ?_⟩) (by assumption) ?_
      rotate_left
      · intro u _
        try simp only [List.getElem_toArray, List.getElem_cons_succ, List.getElem_cons_zero]
        go_simp
        try with_reducible rfl
      try simp only [Act.put, List.setIfInBounds_toArray, List.set_cons_zero, List.set_cons_succ]
      refine Stg.wpAnyL_start (n' := 11) (l' := #[true, true, true, false, false, false, false, false, false, false, false, false, false, false]) (by kernel_rfl) (by kernel_rfl) ?_
      refine Stg.wpAnyL_free (i := 3) (v := ?_) 0 rfl (by kernel_rfl) (by kernel_rfl) (by kernel_rfl) (by kernel_rfl) (by kernel_rfl) (fun _ _ _ h => h) (Or.inl ⟨by kernel_rfl, ?_⟩) (by assumption) ?_
      rotate_left
      · intro u _
        try simp only [List.getElem_toArray, List.getElem_cons_succ, List.getElem_cons_zero]
        go_simp
        try with_reducible rfl
      try simp only [Act.put, List.setIfInBounds_toArray, List.set_cons_zero, List.set_cons_succ]
      refine Stg.wpAnyL_take (i := 4) (v := ?_) [10, 11, 12, 13] 0 rfl (by kernel_rfl) (by kernel_rfl) (by kernel_rfl) (by kernel_rfl) (by kernel_rfl) (fun _ _ _ h => h) (Or.inl ⟨by kernel_rfl, ?_⟩) (by assumption) ?_
      rotate_left
      · intro u hSu
        skip
        have sB := hSu rfl
        have y0 := cellB sB x0
        have y1 := cellB sB b0
        try simp only [List.getElem_toArray, List.getElem_cons_succ, List.getElem_cons_zero]
        go_simp
        try with_reducible rfl
      try simp only [Act.put, List.setIfInBounds_toArray, List.set_cons_zero, List.set_cons_succ]
      refine Stg.wpAnyL_free (i := 5) (v := ?_) 0 rfl (by kernel_rfl) (by kernel_rfl) (by kernel_rfl) (by kernel_rfl) (by kernel_rfl) (fun _ _ _ h => h) (Or.inl ⟨by kernel_rfl, ?_⟩) (by assumption) ?_
      rotate_left
      · intro u _
        try simp only [List.getElem_toArray, List.getElem_cons_succ, List.getElem_cons_zero]
        go_simp
        try with_reducible rfl
      try simp only [Act.put, List.setIfInBounds_toArray, List.set_cons_zero, List.set_cons_succ]
      refine Stg.wpAnyL_start (n' := 8) (l' := #[true, true, true, true, true, true, false, false, false, false, false, false, false, false]) (by kernel_rfl) (by kernel_rfl) ?_
      refine Stg.wpAnyL_free (i := 6) (v := ?_) 0 rfl (by kernel_rfl) (by kernel_rfl) (by kernel_rfl) (by kernel_rfl) (by kernel_rfl) (fun _ _ _ h => h) (Or.inl ⟨by kernel_rfl, ?_⟩) (by assumption) ?_
      rotate_left
      · intro u _
        try simp only [List.getElem_toArray, List.getElem_cons_succ, List.getElem_cons_zero]
        go_simp
        try with_reducible rfl
      try simp only [Act.put, List.setIfInBounds_toArray, List.set_cons_zero, List.set_cons_succ]
      refine Stg.wpAnyL_free (i := 7) (v := ?_) 0 rfl (by kernel_rfl) (by kernel_rfl) (by kernel_rfl) (by kernel_rfl) (by kernel_rfl) (fun _ _ _ h => h) (Or.inl ⟨by kernel_rfl, ?_⟩) (by assumption) ?_
      rotate_left
      · intro u _
        try simp only [List.getElem_toArray, List.getElem_cons_succ, List.getElem_cons_zero]
        go_simp
        try with_reducible rfl
      try simp only [Act.put, List.setIfInBounds_toArray, List.set_cons_zero, List.set_cons_succ]
      refine Stg.wpAnyL_take (i := 8) (v := ?_) [9, 10, 11, 12, 13] 0 rfl (by kernel_rfl) (by kernel_rfl) (by kernel_rfl) (by kernel_rfl) (by kernel_rfl) (fun _ _ _ h => h) (Or.inl ⟨by kernel_rfl, ?_⟩) (by assumption) ?_
      rotate_left
      · intro u hSu
        skip
        have sB := hSu rfl
        have y0 := cellB sB x0
        have y1 := cellB sB b0
        try simp only [List.getElem_toArray, List.getElem_cons_succ, List.getElem_cons_zero]
        go_simp
        try with_reducible rfl
      try simp only [Act.put, List.setIfInBounds_toArray, List.set_cons_zero, List.set_cons_succ]
      refine Stg.wpAnyL_start (n' := 5) (l' := #[true, true, true, true, true, true, true, true, true, false, false, false, false, false]) (by kernel_rfl) (by kernel_rfl) ?_
      refine Stg.wpAnyL_one (i := 9) 0 rfl (by kernel_rfl) (by kernel_rfl) (fun K hK => ?_)
      try simp only [List.getElem_toArray, List.getElem_cons_succ, List.getElem_cons_zero]
      go_simp
      refine hK.out _ _ ?_ (fun hHeld1 => ?_)
      · exact fun _ => bNext (hHeld rfl) ((Below.refl _ _).alloc (Nat.le_refl _) _) (Nat.le_refl _)
      clear hK K
      try simp only [Act.put, List.setIfInBounds_toArray, List.set_cons_zero, List.set_cons_succ]
      refine Stg.wpAnyL_one (i := 10) 1 rfl (by kernel_rfl) (by kernel_rfl) (fun K hK => ?_)
      try simp only [List.getElem_toArray, List.getElem_cons_succ, List.getElem_cons_zero]
      rw [if_pos (by kernel_rfl)]
      refine wp_appI (.tmp 38) (.tmp 43) rfl (r + 1) (.slice wv i wc) g i (by kernel_rfl) (hS.out.ow.kf (KF.of (l := []) (hHeld1 rfl)) (fun q _ => by simp)) (by have := (hHeld1 rfl).size; omega) (q := wr.drew.heap.size) (c := 1) (by kernel_rfl) (by rw [hy.out]; exact blkN_new wr.drew [.int .i64 y] 3) (by omega) ?_
      intro a5 n5 c5 w5 hown5 hn5 hsz5 hgrow5 hor5
      obtain rfl : n5 = i + 1 := hn5
      have hU := hS.out.kf (KF.of (l := []) (hHeld1 rfl))
      refine hK.out _ _ ?_ (fun hHeld2 => ?_)
      · exact fun h => absurd h (by decide)
      clear hK K
      try simp only [Act.put, List.setIfInBounds_toArray, List.set_cons_zero, List.set_cons_succ]
      refine Stg.wpAnyL_free (i := 11) (v := ?_) 1 rfl (by kernel_rfl) (by kernel_rfl) (by kernel_rfl) (by kernel_rfl) (by kernel_rfl) (fun _ _ _ h => h) (Or.inl ⟨by kernel_rfl, ?_⟩) (by assumption) ?_
      rotate_left
      · intro u _
        try simp only [List.getElem_toArray, List.getElem_cons_succ, List.getElem_cons_zero]
        go_simp
        try with_reducible rfl
      try simp only [Act.put, List.setIfInBounds_toArray, List.set_cons_zero, List.set_cons_succ]
      refine Stg.wpAnyL_start (n' := 2) (l' := #[true, true, true, true, true, true, true, true, true, true, true, true, false, false]) (by kernel_rfl) (by kernel_rfl) ?_
      refine Stg.wpAnyL_free (i := 12) (v := ?_) 1 rfl (by kernel_rfl) (by kernel_rfl) (by kernel_rfl) (by kernel_rfl) (by kernel_rfl) (fun _ _ _ h => h) (Or.inl ⟨by kernel_rfl, ?_⟩) (by assumption) ?_
      rotate_left
      · intro u _
        try simp only [List.getElem_toArray, List.getElem_cons_succ, List.getElem_cons_zero]
        go_simp
        try with_reducible rfl
      try simp only [Act.put, List.setIfInBounds_toArray, List.set_cons_zero, List.set_cons_succ]
      refine Stg.wpAnyL_one (i := 13) 2 rfl (by kernel_rfl) (by kernel_rfl) (fun K hK => ?_)
      have hb5 := hU.keepW hgrow5 (own_lt hU.ow)
      have z0 := hb5.f 0
      have z1 := hb5.c 0 _ rfl
      try simp only [List.getElem_toArray, List.getElem_cons_succ, List.getElem_cons_zero]
      go_simp
      refine hK.out _ _ ?_ (fun hHeld3 => ?_)
      · exact fun h => absurd h (by decide)
      clear hK K
      try simp only [Act.put, List.setIfInBounds_toArray, List.set_cons_zero, List.set_cons_succ]
      refine Stg.wpAnyL_done (by kernel_rfl) ?_ _
      try simp only [List.getElem_toArray, List.getElem_cons_succ, List.getElem_cons_zero]
      try simp only [Act.put, List.setIfInBounds_toArray, List.set_cons_zero, List.set_cons_succ]
      refine NoPanic.normal ?_
      have hS6 := Lib.hid (hU.appW hown5 hgrow5 hor5)
      have hK6 := Lib.hid (((hK.out.trans ((hHeld1 rfl).mono (by omega))).grown hgrow5 (by have := (hHeld1 rfl).size; omega) (fun q e => by have := (hU.ow.lt e).1; omega)).setCell (p := ⟨r, 0, none⟩) (Nat.le_refl _) (.slice a5 (i + 1) c5))
      clear z0 z1 hb5 hU hown5 hgrow5 hor5 hsz5 b0 x0 hHeld hS hK
      go_upto_region 10 with fail
      generalize w5.setCell ⟨r, 0, none⟩ (.slice a5 (i + 1) c5) = w6 at hS6 hK6 ⊢
      have x0 := (hK6.out.cell (p := ⟨b, off + i, none⟩) hbr).trans (hc.out i (by omega))
      rw [hy.out] at x0
      have b1 := hS6.out.b.c 1 _ rfl
      refine wp_region_noPanic ?_
      refine Stg.wp_region_L [12] (Vr.SB w6) (by kernel_rfl) (fun _ => (Below.refl _ _).drew) (fun hHeld => ?_)
      refine Stg.wpAnyL_start (n' := 13) (l' := #[false, false, false, false, false, false, false, false, false, false, false, false, false]) (by kernel_rfl) (by kernel_rfl) ?_
      refine Stg.wpAnyL_free (i := 0) (v := ?_) 0 rfl (by kernel_rfl) (by kernel_rfl) (by kernel_rfl) (by kernel_rfl) (by kernel_rfl) (fun _ _ _ h => h) (Or.inl ⟨by kernel_rfl, ?_⟩) (by assumption) ?_
      rotate_left
      · intro u _
        try simp only [List.getElem_toArray, List.getElem_cons_succ, List.getElem_cons_zero]
        go_simp
        try with_reducible rfl
      try simp only [Act.put, List.setIfInBounds_toArray, List.set_cons_zero, List.set_cons_succ]
      refine Stg.wpAnyL_free (i := 1) (v := ?_) 0 rfl (by kernel_rfl) (by kernel_rfl) (by kernel_rfl) (by kernel_rfl) (by kernel_rfl) (fun _ _ _ h => h) (Or.inl ⟨by kernel_rfl, ?_⟩) (by assumption) ?_
      rotate_left
      · intro u _
        try simp only [List.getElem_toArray, List.getElem_cons_succ, List.getElem_cons_zero]
        go_simp
        try with_reducible rfl
      try simp only [Act.put, List.setIfInBounds_toArray, List.set_cons_zero, List.set_cons_succ]
      refine Stg.wpAnyL_free (i := 2) (v := ?_) 0 rfl (by kernel_rfl) (by kernel_rfl) (by kernel_rfl) (by kernel_rfl) (by kernel_rfl) (fun _ _ _ h => h) (Or.inl ⟨by kernel_rfl, ?_⟩) (by assumption) ?_
      rotate_left
      · intro u _
        try simp only [List.getElem_toArray, List.getElem_cons_succ, List.getElem_cons_zero]
        go_simp
        try with_reducible rfl
      try simp only [Act.put, List.setIfInBounds_toArray, List.set_cons_zero, List.set_cons_succ]
      refine Stg.wpAnyL_start (n' := 10) (l' := #[true, true, true, false, false, false, false, false, false, false, false, false, false]) (by kernel_rfl) (by kernel_rfl) ?_
      refine Stg.wpAnyL_free (i := 3) (v := ?_) 0 rfl (by kernel_rfl) (by kernel_rfl) (by kernel_rfl) (by kernel_rfl) (by kernel_rfl) (fun _ _ _ h => h) (Or.inl ⟨by kernel_rfl, ?_⟩) (by assumption) ?_
      rotate_left
      · intro u _
        try simp only [List.getElem_toArray, List.getElem_cons_succ, List.getElem_cons_zero]
        go_simp
        try with_reducible rfl
      try simp only [Act.put, List.setIfInBounds_toArray, List.set_cons_zero, List.set_cons_succ]
      refine Stg.wpAnyL_take (i := 4) (v := ?_) [9, 10, 11, 12] 0 rfl (by kernel_rfl) (by kernel_rfl) (by kernel_rfl) (by kernel_rfl) (by kernel_rfl) (fun _ _ _ h => h) (Or.inl ⟨by kernel_rfl, ?_⟩) (by assumption) ?_
      rotate_left
      · intro u hSu
        skip
        have sB := hSu rfl
        have y0 := cellB sB x0
        have y1 := cellB sB b1
        try simp only [List.getElem_toArray, List.getElem_cons_succ, List.getElem_cons_zero]
        go_simp
        try with_reducible rfl
      try simp only [Act.put, List.setIfInBounds_toArray, List.set_cons_zero, List.set_cons_succ]
      refine Stg.wpAnyL_free (i := 5) (v := ?_) 0 rfl (by kernel_rfl) (by kernel_rfl) (by kernel_rfl) (by kernel_rfl) (by kernel_rfl) (fun _ _ _ h => h) (Or.inl ⟨by kernel_rfl, ?_⟩) (by assumption) ?_
      rotate_left
      · intro u _
        try simp only [List.getElem_toArray, List.getElem_cons_succ, List.getElem_cons_zero]
        go_simp
        try with_reducible rfl
      try simp only [Act.put, List.setIfInBounds_toArray, List.set_cons_zero, List.set_cons_succ]
      refine Stg.wpAnyL_start (n' := 7) (l' := #[true, true, true, true, true, true, false, false, false, false, false, false, false]) (by kernel_rfl) (by kernel_rfl) ?_
      refine Stg.wpAnyL_free (i := 6) (v := ?_) 0 rfl (by kernel_rfl) (by kernel_rfl) (by kernel_rfl) (by kernel_rfl) (by kernel_rfl) (fun _ _ _ h => h) (Or.inl ⟨by kernel_rfl, ?_⟩) (by assumption) ?_
      rotate_left
      · intro u _
        try simp only [List.getElem_toArray, List.getElem_cons_succ, List.getElem_cons_zero]
        go_simp
        try with_reducible rfl
      try simp only [Act.put, List.setIfInBounds_toArray, List.set_cons_zero, List.set_cons_succ]
      refine Stg.wpAnyL_free (i := 7) (v := ?_) 0 rfl (by kernel_rfl) (by kernel_rfl) (by kernel_rfl) (by kernel_rfl) (by kernel_rfl) (fun _ _ _ h => h) (Or.inl ⟨by kernel_rfl, ?_⟩) (by assumption) ?_
      rotate_left
      · intro u _
        try simp only [List.getElem_toArray, List.getElem_cons_succ, List.getElem_cons_zero]
        go_simp
        try with_reducible rfl
      try simp only [Act.put, List.setIfInBounds_toArray, List.set_cons_zero, List.set_cons_succ]
      refine Stg.wpAnyL_take (i := 8) (v := ?_) [9, 10, 11, 12] 0 rfl (by kernel_rfl) (by kernel_rfl) (by kernel_rfl) (by kernel_rfl) (by kernel_rfl) (fun _ _ _ h => h) (Or.inl ⟨by kernel_rfl, ?_⟩) (by assumption) ?_
      rotate_left
      · intro u hSu
        skip
        have sB := hSu rfl
        have y0 := cellB sB x0
        have y1 := cellB sB b1
        try simp only [List.getElem_toArray, List.getElem_cons_succ, List.getElem_cons_zero]
        go_simp
        try with_reducible rfl
      try simp only [Act.put, List.setIfInBounds_toArray, List.set_cons_zero, List.set_cons_succ]
      refine Stg.wpAnyL_start (n' := 4) (l' := #[true, true, true, true, true, true, true, true, true, false, false, false, false]) (by kernel_rfl) (by kernel_rfl) ?_
      refine Stg.wpAnyL_free (i := 9) (v := ?_) 0 rfl (by kernel_rfl) (by kernel_rfl) (by kernel_rfl) (by kernel_rfl) (by kernel_rfl) (fun _ _ _ h => h) (Or.inl ⟨by kernel_rfl, ?_⟩) (by assumption) ?_
      rotate_left
      · intro u _
        try simp only [List.getElem_toArray, List.getElem_cons_succ, List.getElem_cons_zero]
        go_simp
        try with_reducible rfl
      try simp only [Act.put, List.setIfInBounds_toArray, List.set_cons_zero, List.set_cons_succ]
      refine Stg.wpAnyL_free (i := 10) (v := ?_) 0 rfl (by kernel_rfl) (by kernel_rfl) (by kernel_rfl) (by kernel_rfl) (by kernel_rfl) (fun _ _ _ h => h) (Or.inl ⟨by kernel_rfl, ?_⟩) (by assumption) ?_
      rotate_left
      · intro u _
        try simp only [List.getElem_toArray, List.getElem_cons_succ, List.getElem_cons_zero]
        go_simp
        try with_reducible rfl
      try simp only [Act.put, List.setIfInBounds_toArray, List.set_cons_zero, List.set_cons_succ]
      refine Stg.wpAnyL_free (i := 11) (v := ?_) 0 rfl (by kernel_rfl) (by kernel_rfl) (by kernel_rfl) (by kernel_rfl) (by kernel_rfl) (fun _ _ _ h => h) (Or.inl ⟨by kernel_rfl, ?_⟩) (by assumption) ?_
      rotate_left
      · intro u _
        try simp only [List.getElem_toArray, List.getElem_cons_succ, List.getElem_cons_zero]
        go_simp
        try with_reducible rfl
      try simp only [Act.put, List.setIfInBounds_toArray, List.set_cons_zero, List.set_cons_succ]
      refine Stg.wpAnyL_start (n' := 1) (l' := #[true, true, true, true, true, true, true, true, true, true, true, true, false]) (by kernel_rfl) (by kernel_rfl) ?_
      refine Stg.wpAnyL_one (i := 12) 1 rfl (by kernel_rfl) (by kernel_rfl) (fun K hK => ?_)
      have z0 := (hS6.out.kf (KF.of (l := []) (hHeld rfl))).b.f 1
      have z1 := (hS6.out.kf (KF.of (l := []) (hHeld rfl))).b.c 1 _ rfl
      try simp only [List.getElem_toArray, List.getElem_cons_succ, List.getElem_cons_zero]
      go_simp
      refine hK.out _ _ ?_ (fun hHeld1 => ?_)
      · exact fun h => absurd h (by decide)
      clear hK K
      try simp only [Act.put, List.setIfInBounds_toArray, List.set_cons_zero, List.set_cons_succ]
      refine Stg.wpAnyL_done (by kernel_rfl) ?_ _
      try simp only [List.getElem_toArray, List.getElem_cons_succ, List.getElem_cons_zero]
      try simp only [Act.put, List.setIfInBounds_toArray, List.set_cons_zero, List.set_cons_succ]
      refine NoPanic.normal ?_
      have hS7 := Lib.hid ((hS6.out.setS (s + y)).kf (KF.of (l := []) (Below.refl _ _).drew))
      have hK7 := Lib.hid ((hK6.out.setCell (p := ⟨r, 1, none⟩) (Nat.le_refl _) (.int .i64 (s + y))).drew)
      clear z0 z1 hS6 hK6 x0 b1 hHeld
      go_upto_region 11 with fail
      generalize (w6.setCell ⟨r, 1, none⟩ (.int .i64 (s + y))).drew = w7 at hS7 hK7 ⊢
      have b4 := hS7.out.b.c 4 _ rfl
      have ha := (Below.refl w7.heap.size w7).alloc (Nat.le_refl _) (.cells #[.int .i64 0] 3)
      have hU := Lib.hid (hS7.out.kf (KF.of (l := []) ha))
      have hbk := Lib.hid (blkN_new w7 [.int .i64 0] 3)
      have hrl7 := hS7.out.b.l
      have hszA := Lib.hid (show r + 1 ≤ (w7.alloc (.cells #[.int .i64 0] 3)).heap.size by simp; omega)
      have hKA := Lib.hid (hK7.out.alloc (by omega) (.cells #[.int .i64 0] 3))
      clear ha hS7 hK7
      go_upto_region 12 with (at_builtin; refine wpList_appI rfl _ _ rfl (r + 1) (.slice sv i sc) nz i (by rfl) hU.out.os hszA.out (by rfl) hbk.out (by omega) ?_; intro a8 n8 c8 w8 hown8 hn8 hsz8 hgrow8 hor8; obtain rfl : n8 = i + 1 := hn8; have hb8 := hU.out.keepW hgrow8 (own_lt hU.out.os); have z0 := hb8.f 4; have z1 := hb8.c 4 _ rfl; have hS8 := Lib.hid (hU.out.appS hown8 hgrow8 hor8); have hK8 := Lib.hid (((hKA.out).grown hgrow8 (by have := hszA.out; omega) (fun q e => by have := (hU.out.os.lt e).1; omega)).setCell (p := ⟨r, 4, none⟩) (Nat.le_refl _) (.slice a8 (i + 1) c8)); clear hb8 hown8 hgrow8 hor8 hsz8 hbk b4)
      clear z0 z1 hU hKA hszA
      generalize w8.setCell ⟨r, 4, none⟩ (.slice a8 (i + 1) c8) = w9 at hS8 hK8 ⊢
      have b5 := hS8.out.b.c 5 _ rfl
      have ha := (Below.refl w9.heap.size w9).alloc (Nat.le_refl _) (.cells #[.bool false] 4)
      have hU := Lib.hid (hS8.out.kf (KF.of (l := []) ha))
      have hbk := Lib.hid (blkN_new w9 [.bool false] 4)
      have hrl9 := hS8.out.b.l
      have hszA := Lib.hid (show r + 1 ≤ (w9.alloc (.cells #[.bool false] 4)).heap.size by simp; omega)
      have hKA := Lib.hid (hK8.out.alloc (by omega) (.cells #[.bool false] 4))
      clear ha hS8 hK8
      go_wp2_with (at_builtin; refine wpList_appB rfl _ _ rfl (r + 1) (.slice dv i dc) nof i (by rfl) hU.out.od hszA.out (by rfl) hbk.out (by omega) ?_; intro a10 n10 c10 w10 hown10 hn10 hsz10 hgrow10 hor10; obtain rfl : n10 = i + 1 := hn10; have hb10 := hU.out.keepW hgrow10 (ownb_lt hU.out.od); have z0 := hb10.f 5; have z1 := hb10.c 5 _ rfl; have hS10 := Lib.hid (hU.out.appD hown10 hgrow10 hor10); have hK10 := Lib.hid (((hKA.out).grown hgrow10 (by have := hszA.out; omega) (fun q e => by have := (hU.out.od.lt e).1; omega)).setCell (p := ⟨r, 5, none⟩) (Nat.le_refl _) (.slice a10 (i + 1) c10)); clear hb10 hown10 hgrow10 hor10 hsz10 hbk b5)
      go_roundw
      case rel => exact ⟨i + 1, a5, c5, a8, c8, a10, c10, by go_num, hlt, Lib.hid (by rw [hs2.out, hs.out, hy.out]; exact hS10.out), hK10⟩
      case measure => simp [intOf]; omega
    · obtain rfl : i = m := by omega
      have ii1 : (i : Int) < (N : Int) := by omega
      have hbr : b < r := by rw [← hr.out]; exact hb
      have x0 := (hK.out.cell (p := ⟨b, off + i, none⟩) hbr).trans (hc.out i hm)
      have hbad := hbad.out
      obtain ⟨y, hy⟩ : ∃ y, g i = y := ⟨_, rfl⟩
      rw [hy] at x0 hbad
      have hrr := hr.out
      have hKF : RowKit.Hid (Below w.heap.size w wr) := Lib.hid (by rw [hrr]; exact hK.out)
      clear hy hS hK
      by_cases y1 : y < 1
      · clear hbad
        go_wp2_with fail
        exact bodyPost_ret (v := .tuple #[.pointer none, .int .i64 2]) (by simp [results, Try.results14, go_sem]) rfl ⟨rfl, hKF.out⟩
      · have y2 : 16 < y := by omega
        clear hbad
        go_wp2_with fail
        exact bodyPost_ret (v := .tuple #[.pointer none, .int .i64 2]) (by simp [results, Try.results14, go_sem]) rfl ⟨rfl, hKF.out⟩
theorem rfnew_c (w : World) (aw : Option Addr) (nw cw : Nat) (dw : List Int) (Wt : IAt w aw nw cw dw) :
    (newOk dw ∧ Calls Try.prog 14 #[.slice aw nw cw] w (NewRF nw (gd dw) w)) ∨ (¬ newOk dw ∧ Calls Try.prog 14 #[.slice aw nw cw] w (NoNew w)) := by
  have hlen := Wt.len
  by_cases hlw : dw.length < 1 ∨ 8 < dw.length
  · exact .inr ⟨fun q => by have := q.1; have := q.2.1; omega, rfnew_len w aw nw cw (by omega)⟩
  · obtain ⟨b, off, rfl, hb, hc⟩ := Wt.row (by omega)
    have hc2 : ∀ i, i < nw → w.cell? ⟨b, off + i, none⟩ = some (.int .i64 (gd dw i)) := fun i hi => hc i _ (gd_at (by omega))
    by_cases hgood : ∀ i, i < nw → 1 ≤ gd dw i ∧ gd dw i ≤ 16
    · exact .inl ⟨⟨by omega, by omega, fun x hx => by
        obtain ⟨i, hi, rfl⟩ := List.getElem_of_mem hx
        have := hgood i (by omega)
        have e := gd_at hi
        rw [List.getElem?_eq_getElem hi] at e
        injection e with e
        rw [e]; exact this⟩, rfnew_ok w b off nw cw (gd dw) (by omega) (by omega) hb hc2 hgood⟩
    · obtain ⟨m, hm, hbad, hmin⟩ := leastBad (fun i => 1 ≤ gd dw i ∧ gd dw i ≤ 16) nw hgood
      exact .inr ⟨fun q => hgood (fun i hi => q.2.2 _ (gd_mem (by omega))), rfnew_bad w b off nw cw (gd dw) (by omega) (by omega) hb hc2 m hm hmin (by omega)⟩
end Go.Proofs.Ytbbcongfaoopcaa
namespace Go.Proofs.Ytbbcongfaoopcaa
open Go.ChangeShapes Go.WideShapes Go.ChangeAt Go.RowKit Go.Maps
set_option linter.unusedVariables false
set_option linter.unusedSimpArgs false
open BigFrame Pk Fq Vr Fa

namespace Fa
def tI (t : Nat → Nat) : Nat → Int := fun i => ((t i : Nat) : Int)
theorem tI_up (t : Nat → Nat) (k : Nat) : up (tI t) k (((t k : Nat) : Int) + 1) = tI (upn t k (t k + 1)) := funext fun i => by
  unfold up tI upn
  by_cases e : i = k
  · rw [if_pos e, if_pos e]; push_cast; rfl
  · rw [if_neg e, if_neg e]
/-- Where the reference's Run stands. -/
structure RunR (w wr : World) (B : RB) (ab N : Nat) (ALL : Int) (W : Nat → Int) (Q : Nat → List Int) (total : Nat) (all : List Int) (x : Sched) (t : Nat → Nat) (m : Nat) (out : List Int) (ov : Value) (tb ct : Nat) : Prop where
  hrf : RF wr B tb ct N ALL x.V W x.Z x.D x.S x.F
  hinv : Inv ((total - m : Nat) * PM) ALL x.V N W x.Z x.D x.S x.F
  hm : m ≤ total
  hleft : leftQ Q t N = m
  hall : out ++ servedN N ALL W Q m x t = all
  hln : out.length + m = total
  hown : OwnZ wr w.heap.size ov out
  hat : Blk wr ab (iC (tI t) N)
  ht : ∀ i, i < N → t i ≤ (Q i).length
  hbel : Below w.heap.size w wr
  f1 : w.heap.size ≤ B.r
  f2 : w.heap.size ≤ B.wb
  f3 : w.heap.size ≤ B.sb
  f4 : w.heap.size ≤ B.db
  f5 : w.heap.size ≤ tb
  f6 : w.heap.size ≤ ab
  d1 : ab ≠ B.r ∧ ab ≠ B.wb ∧ ab ≠ B.sb ∧ ab ≠ B.db ∧ ab ≠ tb
  d4 : ∀ q, ov.ownBlock = some q → q ≠ B.r ∧ q ≠ B.wb ∧ q ≠ B.sb ∧ q ≠ B.db ∧ q ≠ tb ∧ q ≠ ab
theorem RF.grown {w w' : World} {B : RB} {tb ct N : Nat} {ALL V : Int} {W Z : Nat → Int} {D : Nat → Bool} {S F : Nat → Int} (d : RF w B tb ct N ALL V W Z D S F) {O : Obj} {b : Option Nat} (g : (w.alloc O).grownBy w' b) (hb : ∀ q, b = some q → q ≠ B.r ∧ q ≠ B.wb ∧ q ≠ B.sb ∧ q ≠ B.db ∧ q ≠ tb) : RF w' B tb ct N ALL V W Z D S F := by
  have k : KF b.toList w w' := KF.grown2 ((KF.refl b.toList w).alloc O) g (fun q e => by rw [e]; simp)
  have hm : ∀ x, x ∈ b.toList → b = some x := fun x hx => by simpa using hx
  exact RF.kf k d (fun e => (hb _ (hm _ e)).1 rfl) (fun e => (hb _ (hm _ e)).2.1 rfl) (fun e => (hb _ (hm _ e)).2.2.1 rfl) (fun e => (hb _ (hm _ e)).2.2.2.1 rfl) (fun e => (hb _ (hm _ e)).2.2.2.2 rfl)
end Fa

set_option maxRecDepth 100000 in
set_option maxHeartbeats 20000000 in
theorem rfrun_ok (w : World) (b off N c c2 b2 off2 : Nat) (g : Nat → Int) (a2 : Option Addr) (A : Nat → Option Addr) (L C : Nat → Nat) (Q : Nat → List Int) (h1 : 1 ≤ N) (h8 : N ≤ 8) (hb : b < w.heap.size) (hc : ∀ i, i < N → w.cell? ⟨b, off + i, none⟩ = some (.int .i64 (g i))) (hg : ∀ i, i < N → 1 ≤ g i ∧ g i ≤ 16)
    (T : QsAt w a2 b2 off2 N A L C Q) (hgood : goodQ Q N) (htot : leftQ Q t0 N ≤ 1000) :
    Calls Try.prog 10 #[.slice (some ⟨b, off, none⟩) N c, .slice a2 N c2] w (RunP w (servedN N (sumW g N) g Q (leftQ Q t0 N) sched0 t0)) := by
  have hN1 : (1 : Int) ≤ (N : Int) := by omega
  have hN8 : (N : Int) ≤ 8 := by omega
  have hnew := Lib.hid (rfnew_ok w b off N c g h1 h8 hb hc hg)
  obtain rfl := T.ha (by omega)
  have hb2 := T.hb (by omega)
  replace T := Lib.hid T
  replace hgood := Lib.hid hgood
  replace hg := Lib.hid hg
  clear hc
  go_enter Try.func10, Try.ntmps10
  go_wp2_with fail
  refine hnew.out.mono ?_
  rintro e w1 ⟨B, tb, ct, rfl, hF, hf1, hf2, hf3, hf4, hf5, hB1⟩
  have T1 := Lib.hid (T.out.bel hB1)
  replace hF := Lib.hid hF
  replace hB1 := Lib.hid hB1
  clear hnew
  go_wp2_with fail
  go_loopw [4, 7, 8, 9, 10] (fun s4 s7 s8 s9 _ wr => ∃ (i : Nat) (av : Option Addr) (ac : Nat), s4 = .slice none 0 0 ∧ s7 = .int .i64 ((leftQ Q t0 i : Nat) : Int) ∧ s8 = .slice av i ac ∧ s9 = .int .i64 (i : Nat) ∧ i ≤ N ∧ RowKit.Hid (OwnI wr w1.heap.size (.slice av i ac) nz i) ∧ RowKit.Hid (Below w1.heap.size w1 wr)) (fun _ _ _ s9 _ _ => N - (intOf s9).toNat)
  case atStart => exact ⟨0, none, 0, rfl, rfl, rfl, rfl, Nat.zero_le _, Lib.hid (OwnI.nil _ _ _), Lib.hid (Below.refl _ _)⟩
  case round =>
    obtain ⟨i, av, ac, rfl, rfl, rfl, rfl, hi, hO, hB⟩ := hrel
    have ii : (i : Int) ≤ (N : Int) := by omega
    by_cases hlt : i < N
    · have ii1 : (i : Int) < (N : Int) := by omega
      have x0 := (T1.out.bel hB.out).c0 i hlt
      have hq := T1.out.q i hlt
      have hmono := leftQ_mono (Q := Q) (t := t0) (i := i + 1) N (by omega)
      have hlen := hq.len
      have hcap := hq.cap
      have hmax := hq.max
      have hstep : leftQ Q t0 (i + 1) = leftQ Q t0 i + L i := by simp only [leftQ, t0]; omega
      have hgq : ∀ x, x ∈ Q i → 1 ≤ x ∧ x ≤ 1500 := fun x hx => hgood.out i hlt x hx
      obtain ⟨Li, eL⟩ : ∃ n, L i = n := ⟨_, rfl⟩
      obtain ⟨Ci, eC⟩ : ∃ n, C i = n := ⟨_, rfl⟩
      obtain ⟨Ai, eA⟩ : ∃ n, A i = n := ⟨_, rfl⟩
      obtain ⟨S, eS⟩ : ∃ n, leftQ Q t0 i = n := ⟨_, rfl⟩
      rw [eL, eC] at hcap
      rw [eC] at hmax
      rw [eL] at hlen
      rw [eL, eC, eA] at hq x0
      rw [hstep, eS, eL] at hmono
      rw [eS, eL] at hstep
      replace hstep := Lib.hid hstep
      have hle : ((S : Nat) : Int) + (Li : Int) ≤ 1000 := by omega
      replace hq := Lib.hid hq
      replace hgq := Lib.hid hgq
      replace hlen := Lib.hid hlen
      have eLH := Lib.hid eL
      have eCH := Lib.hid eC
      have eAH := Lib.hid eA
      clear eL eC eA
      rw [eS]
      clear eS
      have ha := (Below.refl wr.heap.size wr).alloc (Nat.le_refl _) (.cells #[.int .i64 0] 3)
      have hU := Lib.hid (hO.out.kf (KF.of (l := []) ha) (fun q _ => by simp))
      have hbk := Lib.hid (blkN_new wr [.int .i64 0] 3)
      have hszA := Lib.hid (show w1.heap.size ≤ (wr.alloc (.cells #[.int .i64 0] 3)).heap.size by have := hB.out.size; simp; omega)
      clear ha
      go_upto_region 11 with (at_builtin; refine wpList_appI rfl _ _ rfl w1.heap.size (.slice av i ac) nz i (by rfl) hU.out hszA.out (by rfl) hbk.out (by omega) ?_; intro a8 n8 c8 w8 hown8 hn8 hsz8 hgrow8 hor8; obtain rfl : n8 = i + 1 := hn8; have hown8 := Lib.hid hown8; have hB8 := Lib.hid ((hB.out.alloc hB.out.size _).grown hgrow8 hszA.out (fun q e => (hU.out.lt e).1)); clear hgrow8 hor8 hsz8 hbk hszA hU)
      have x8 := (T1.out.bel hB8.out).c0 i hlt
      have hq8 := Lib.hid (hq.out.bel hB8.out)
      rw [eLH.out, eCH.out, eAH.out] at x8
      clear x0 hO hB hq
      go_wp2_with fail
      go_loopw [4, 10] (fun s4 s10 wr => ∃ (j : Nat), s4 = .slice none 0 0 ∧ s10 = .int .i64 (j : Nat) ∧ j ≤ Li ∧ wr = w8) (fun _ s10 _ => Li - (intOf s10).toNat)
      case atStart => exact ⟨0, rfl, rfl, Nat.zero_le _, rfl⟩
      case round =>
        obtain ⟨j, rfl, rfl, hj, rfl⟩ := hrel
        have jj : (j : Int) ≤ (Li : Int) := by omega
        by_cases hjl : j < Li
        · have jj1 : (j : Int) < (Li : Int) := by omega
          obtain ⟨bj, oj, rfl, hbj, hcj⟩ := hq8.out.row (by omega)
          obtain ⟨y, hy⟩ : ∃ y, (Q i)[j]? = some y := ⟨_, List.getElem?_eq_getElem (by have := hlen.out; omega)⟩
          have y0 := hcj j y hy
          obtain ⟨g1, g2⟩ := hgq.out y (List.mem_of_getElem? hy)
          have g3 : ¬ y < 1 := by omega
          have g4 : ¬ 1500 < y := by omega
          replace hcj := Lib.hid hcj
          replace hy := Lib.hid hy
          go_wp2_with fail
          go_roundw
          case rel => exact ⟨j + 1, rfl, by go_num, hjl, by first | rfl | trivial⟩
          case measure => simp [intOf]; omega
        · obtain rfl : j = Li := by omega
          go_wp2_with fail
          go_roundw
          case rel => exact ⟨i + 1, a8, c8, rfl, by rw [hstep.out]; push_cast; rfl, rfl, by go_num, hlt, hown8, hB8⟩
          case measure => simp [intOf]; omega
    · obtain rfl : i = N := by omega
      obtain ⟨ab, rfl, hab, bA⟩ := hO.out.blk (by omega)
      have hsz1 := hB1.out.size
      have hrl := hF.out.b.l
      have hwl := hF.out.wr.l
      have hsl := hF.out.s.l
      have hdl := hF.out.d.l
      have htl := hF.out.tl
      have hS : RowKit.Hid (RunR w wr B ab i (sumW g i) g Q (leftQ Q t0 i) (servedN i (sumW g i) g Q (leftQ Q t0 i) sched0 t0) sched0 t0 (leftQ Q t0 i) [] (.slice none 0 0) tb ct) := Lib.hid
        ⟨hF.out.bel hB.out, by rw [Nat.sub_self]; have := inv0 h8 hg.out; simpa [sched0] using this, Nat.le_refl _, rfl, List.nil_append _, by simp, OwnZ.nil _ _, bA, fun j hj => Nat.zero_le _, hB1.out.trans (hB.out.mono hsz1), hf1, hf2, hf3, hf4, hf5, by omega, ⟨by omega, by omega, by omega, by omega, by omega⟩, (fun q e => by cases e)⟩
      clear hF T1 hB1 hB hO bA
      obtain ⟨total, htot2⟩ : ∃ n, leftQ Q t0 i = n := ⟨_, rfl⟩
      rw [htot2] at hS htot ⊢
      generalize hall : servedN i (sumW g i) g Q total sched0 t0 = all at hS
      replace hall := Lib.hid hall
      replace htot2 := Lib.hid htot2
      go_wp2_with fail
      go_loopw [4, 7, 11, 12, 13, 14, 15, 16] (fun _ s7 s11 _ _ _ _ _ wr => ∃ (x : Sched) (t : Nat → Nat) (m : Nat) (out : List Int) (ov : Option Addr) (on oc tb ct : Nat), s7 = .int .i64 (m : Nat) ∧ s11 = .slice ov on oc ∧ RowKit.Hid (on = out.length) ∧ m ≤ total ∧ RowKit.Hid (RunR w wr B ab i (sumW g i) g Q total all x t m out (.slice ov on oc) tb ct)) (fun _ s7 _ _ _ _ _ _ _ => (intOf s7).toNat)
      case atStart => exact ⟨sched0, t0, total, [], none, 0, 0, tb, ct, rfl, rfl, Lib.hid rfl, Nat.le_refl _, hS⟩
      case round =>
        obtain ⟨x, t, m, out, ov, on, oc, tb, ct, rfl, rfl, hon, hmt, hS⟩ := hrel
        obtain ⟨W2, rfl⟩ : ∃ u : World, u = wr := ⟨_, rfl⟩
        by_cases hm0 : m = 0
        · subst hm0
          have hout : RowKit.Hid (out = all) := Lib.hid (by have := hS.out.hall; simpa [servedN] using this)
          have hQ := Lib.hid (show RunP w all (.returned (.slice ov on oc)) W2 from ⟨ov, on, oc, rfl, by rw [← hout.out]; exact hon.out, by rw [← hout.out]; exact hS.out.hown, hS.out.hbel⟩)
          clear hS
          go_wp2_with fail
          refine bodyPost_ret (v := .slice ov on oc) (by simp [results, Try.results10, go_sem]) rfl ?_
          rw [htot2.out, hall.out]
          exact hQ.out
        · have hmz : (0 : Int) < (m : Int) := by omega
          have hmN : 0 < m := by omega
          go_wp2_with fail
          go_loopw [12, 13, 14] (fun s12 s13 _ wr => ∃ (j : Nat) (hv : Option Addr) (hc : Nat), s12 = .slice hv j hc ∧ s13 = .int .i64 (j : Nat) ∧ j ≤ i ∧ RowKit.Hid (OwnH wr W2.heap.size (.slice hv j hc) (headsQ Q t) j) ∧ RowKit.Hid (Below W2.heap.size W2 wr)) (fun _ s13 _ _ => i - (intOf s13).toNat)
          case atStart => exact ⟨0, none, 0, rfl, rfl, Nat.zero_le _, Lib.hid (OwnH.nil _ _ _), Lib.hid (Below.refl _ _)⟩
          case round =>
            obtain ⟨j, hv, hc, rfl, rfl, hj, hO, hB⟩ := hrel
            have jj : (j : Int) ≤ (i : Int) := by omega
            by_cases hjl : j < i
            · have jj1 : (j : Int) < (i : Int) := by omega
              have x0 := (hS.out.hat.bel hB.out).c j _ (iC_at (tI t) i j hjl)
              have hbl := hS.out.hbel.trans (hB.out.mono hS.out.hbel.size)
              have x1 := (T.out.bel hbl).c0 j hjl
              have hq2 := (T.out.bel hbl).q j hjl
              have htj := hS.out.ht j hjl
              have hlen := hq2.len
              have hcap := hq2.cap
              have hmax := hq2.max
              obtain ⟨tj, et⟩ : ∃ n, t j = n := ⟨_, rfl⟩
              obtain ⟨Lj, eL⟩ : ∃ n, L j = n := ⟨_, rfl⟩
              simp only [tI] at x0
              rw [et] at x0 htj
              rw [eL] at x1 hlen hcap
              rw [hlen] at htj
              replace hbl := Lib.hid hbl
              have hz3 : (Lj : Int) ≤ 9223372036854775807 := by omega
              have ha0 := (Below.refl wr.heap.size wr).alloc (Nat.le_refl _) (.cells #[.int .i64 0, .int .i64 0] 60)
              go_upto_region 26 with fail
              have hO3 := hO.out.kf (KF.of (l := []) ha0) (fun q hq => by simp)
              have hB3 := hB.out.alloc hB.out.size (.cells #[.int .i64 0, .int .i64 0] 60)
              have xb := blk_new wr (.int .i64 0) (.int .i64 0) 60
              replace x0 := cellB ha0 x0
              replace x1 := cellB ha0 x1
              have hq3 := hq2.bel ha0
              have hqsz : W2.heap.size ≤ wr.heap.size := hB.out.size
              have hqb : RowKit.Hid (∀ q, (Value.slice hv j hc).ownBlock = some q → q < wr.heap.size) := Lib.hid (fun q e => (hO.out.lt e).2)
              generalize wr.alloc (.cells #[.int .i64 0, .int .i64 0] 60) = W3 at hO3 hB3 xb x0 x1 hq3 ⊢
              generalize wr.heap.size = bx at xb hqsz hqb ⊢
              clear ha0 hq2 hO hB hbl
              have hhd := Lib.hid (headsQ_drop Q t j)
              replace hO3 := Lib.hid hO3
              replace hB3 := Lib.hid hB3
              replace xb := Lib.hid xb
              replace hq3 := Lib.hid hq3
              by_cases hpos : tj < Lj
              · have hpz : (tj : Int) < (Lj : Int) := by omega
                obtain ⟨bj, oj, eA, hbj, hcj⟩ := hq3.out.row (by omega)
                obtain ⟨y, hy⟩ : ∃ y, (Q j)[tj]? = some y := ⟨_, List.getElem?_eq_getElem (by omega)⟩
                have hhy : RowKit.Hid (headsQ Q t j = y) := Lib.hid (by unfold headsQ; rw [et, List.getD_eq_getElem?_getD, hy]; rfl)
                have v0 := hcj tj y hy
                rw [eA] at x1
                replace hy := Lib.hid hy
                replace hcj := Lib.hid hcj
                clear eA
                go_big_quiet (fail)
                have hbd := bDrew (Below.refl W3.heap.size W3) nq
                have hO4 := hO3.out.kf (KF.of (l := []) hbd) (fun q hq => by simp)
                have hB4 := hB3.out.trans (hbd.mono hB3.out.size)
                have xb4 := xb.out.bel hbd
                replace x0 := cellB hbd x0
                replace x1 := cellB hbd x1
                replace v0 := cellB hbd v0
                generalize W3.drewN nq = W4 at hO4 hB4 xb4 x0 x1 v0 ⊢
                go_upto_region 27 with fail
                replace xb4 := Lib.hid xb4
                refine wp_region_noPanic ?_
                refine Stg.wp_region_L [11] (Vr.SB W4) (by kernel_rfl) (fun _ => (Below.refl _ _).drew) (fun hHeld => ?_)
                refine Stg.wpAnyL_start (n' := 12) (l' := #[false, false, false, false, false, false, false, false, false, false, false, false]) (by kernel_rfl) (by kernel_rfl) ?_
                refine Stg.wpAnyL_free (i := 0) (v := ?_) 0 rfl (by kernel_rfl) (by kernel_rfl) (by kernel_rfl) (by kernel_rfl) (by kernel_rfl) (fun _ _ _ h => h) (Or.inl ⟨by kernel_rfl, ?_⟩) (by assumption) ?_
                rotate_left
                · intro u _
                  try simp only [List.getElem_toArray, List.getElem_cons_succ, List.getElem_cons_zero]
                  go_simp
                  try with_reducible rfl
                try simp only [Act.put, List.setIfInBounds_toArray, List.set_cons_zero, List.set_cons_succ]
                refine Stg.wpAnyL_free (i := 1) (v := ?_) 0 rfl (by kernel_rfl) (by kernel_rfl) (by kernel_rfl) (by kernel_rfl) (by kernel_rfl) (fun _ _ _ h => h) (Or.inl ⟨by kernel_rfl, ?_⟩) (by assumption) ?_
                rotate_left
                · intro u _
                  try simp only [List.getElem_toArray, List.getElem_cons_succ, List.getElem_cons_zero]
                  go_simp
                  try with_reducible rfl
                try simp only [Act.put, List.setIfInBounds_toArray, List.set_cons_zero, List.set_cons_succ]
                refine Stg.wpAnyL_free (i := 2) (v := ?_) 0 rfl (by kernel_rfl) (by kernel_rfl) (by kernel_rfl) (by kernel_rfl) (by kernel_rfl) (fun _ _ _ h => h) (Or.inl ⟨by kernel_rfl, ?_⟩) (by assumption) ?_
                rotate_left
                · intro u _
                  try simp only [List.getElem_toArray, List.getElem_cons_succ, List.getElem_cons_zero]
                  go_simp
                  try with_reducible rfl
                try simp only [Act.put, List.setIfInBounds_toArray, List.set_cons_zero, List.set_cons_succ]
                refine Stg.wpAnyL_start (n' := 9) (l' := #[true, true, true, false, false, false, false, false, false, false, false, false]) (by kernel_rfl) (by kernel_rfl) ?_
                refine Stg.wpAnyL_take (i := 3) (v := ?_) [8, 9, 10, 11] 0 rfl (by kernel_rfl) (by kernel_rfl) (by kernel_rfl) (by kernel_rfl) (by kernel_rfl) (fun _ _ _ h => h) (Or.inl ⟨by kernel_rfl, ?_⟩) (by assumption) ?_
                rotate_left
                · intro u hSu
                  skip
                  have sB := hSu rfl
                  have y0 := cellB sB x0
                  have y1 := cellB sB x1
                  have y2 := cellB sB v0
                  try simp only [List.getElem_toArray, List.getElem_cons_succ, List.getElem_cons_zero]
                  go_simp
                  try with_reducible rfl
                try simp only [Act.put, List.setIfInBounds_toArray, List.set_cons_zero, List.set_cons_succ]
                refine Stg.wpAnyL_free (i := 4) (v := ?_) 0 rfl (by kernel_rfl) (by kernel_rfl) (by kernel_rfl) (by kernel_rfl) (by kernel_rfl) (fun _ _ _ h => h) (Or.inl ⟨by kernel_rfl, ?_⟩) (by assumption) ?_
                rotate_left
                · intro u _
                  try simp only [List.getElem_toArray, List.getElem_cons_succ, List.getElem_cons_zero]
                  go_simp
                  try with_reducible rfl
                try simp only [Act.put, List.setIfInBounds_toArray, List.set_cons_zero, List.set_cons_succ]
                refine Stg.wpAnyL_free (i := 5) (v := ?_) 0 rfl (by kernel_rfl) (by kernel_rfl) (by kernel_rfl) (by kernel_rfl) (by kernel_rfl) (fun _ _ _ h => h) (Or.inl ⟨by kernel_rfl, ?_⟩) (by assumption) ?_
                rotate_left
                · intro u _
                  try simp only [List.getElem_toArray, List.getElem_cons_succ, List.getElem_cons_zero]
                  go_simp
                  try with_reducible rfl
                try simp only [Act.put, List.setIfInBounds_toArray, List.set_cons_zero, List.set_cons_succ]
                refine Stg.wpAnyL_start (n' := 6) (l' := #[true, true, true, true, true, true, false, false, false, false, false, false]) (by kernel_rfl) (by kernel_rfl) ?_
                refine Stg.wpAnyL_free (i := 6) (v := ?_) 0 rfl (by kernel_rfl) (by kernel_rfl) (by kernel_rfl) (by kernel_rfl) (by kernel_rfl) (fun _ _ _ h => h) (Or.inl ⟨by kernel_rfl, ?_⟩) (by assumption) ?_
                rotate_left
                · intro u _
                  try simp only [List.getElem_toArray, List.getElem_cons_succ, List.getElem_cons_zero]
                  go_simp
                  try with_reducible rfl
                try simp only [Act.put, List.setIfInBounds_toArray, List.set_cons_zero, List.set_cons_succ]
                refine Stg.wpAnyL_take (i := 7) (v := ?_) [8, 9, 10, 11] 0 rfl (by kernel_rfl) (by kernel_rfl) (by kernel_rfl) (by kernel_rfl) (by kernel_rfl) (fun _ _ _ h => h) (Or.inl ⟨by kernel_rfl, ?_⟩) (by assumption) ?_
                rotate_left
                · intro u hSu
                  skip
                  have sB := hSu rfl
                  have y0 := cellB sB x0
                  have y1 := cellB sB x1
                  have y2 := cellB sB v0
                  try simp only [List.getElem_toArray, List.getElem_cons_succ, List.getElem_cons_zero]
                  go_simp
                  try with_reducible rfl
                try simp only [Act.put, List.setIfInBounds_toArray, List.set_cons_zero, List.set_cons_succ]
                refine Stg.wpAnyL_free (i := 8) (v := ?_) 0 rfl (by kernel_rfl) (by kernel_rfl) (by kernel_rfl) (by kernel_rfl) (by kernel_rfl) (fun _ _ _ h => h) (Or.inl ⟨by kernel_rfl, ?_⟩) (by assumption) ?_
                rotate_left
                · intro u _
                  try simp only [List.getElem_toArray, List.getElem_cons_succ, List.getElem_cons_zero]
                  go_simp
                  try with_reducible rfl
                try simp only [Act.put, List.setIfInBounds_toArray, List.set_cons_zero, List.set_cons_succ]
                refine Stg.wpAnyL_start (n' := 3) (l' := #[true, true, true, true, true, true, true, true, true, false, false, false]) (by kernel_rfl) (by kernel_rfl) ?_
                refine Stg.wpAnyL_take (i := 9) (v := ?_) [10, 11] 0 rfl (by kernel_rfl) (by kernel_rfl) (by kernel_rfl) (by kernel_rfl) (by kernel_rfl) (fun _ _ _ h => h) (Or.inl ⟨by kernel_rfl, ?_⟩) (by assumption) ?_
                rotate_left
                · intro u hSu
                  skip
                  have sB := hSu rfl
                  have y0 := cellB sB x0
                  have y1 := cellB sB x1
                  have y2 := cellB sB v0
                  try simp only [List.getElem_toArray, List.getElem_cons_succ, List.getElem_cons_zero]
                  go_simp
                  try with_reducible rfl
                try simp only [Act.put, List.setIfInBounds_toArray, List.set_cons_zero, List.set_cons_succ]
                refine Stg.wpAnyL_free (i := 10) (v := ?_) 0 rfl (by kernel_rfl) (by kernel_rfl) (by kernel_rfl) (by kernel_rfl) (by kernel_rfl) (fun _ _ _ h => h) (Or.inl ⟨by kernel_rfl, ?_⟩) (by assumption) ?_
                rotate_left
                · intro u _
                  try simp only [List.getElem_toArray, List.getElem_cons_succ, List.getElem_cons_zero]
                  go_simp
                  try with_reducible rfl
                try simp only [Act.put, List.setIfInBounds_toArray, List.set_cons_zero, List.set_cons_succ]
                refine Stg.wpAnyL_one (i := 11) 1 rfl (by kernel_rfl) (by kernel_rfl) (fun K hK => ?_)
                have z0 := (xb4.out.bel (hHeld rfl)).f 0
                have z1 := (xb4.out.bel (hHeld rfl)).c 0 _ rfl
                try simp only [List.getElem_toArray, List.getElem_cons_succ, List.getElem_cons_zero]
                go_simp
                refine hK.out _ _ ?_ (fun hHeld1 => ?_)
                · exact fun h => absurd h (by decide)
                clear hK K
                try simp only [Act.put, List.setIfInBounds_toArray, List.set_cons_zero, List.set_cons_succ]
                refine Stg.wpAnyL_done (by kernel_rfl) ?_ _
                try simp only [List.getElem_toArray, List.getElem_cons_succ, List.getElem_cons_zero]
                try simp only [Act.put, List.setIfInBounds_toArray, List.set_cons_zero, List.set_cons_succ]
                refine NoPanic.normal ?_
                clear z0 z1 x0 x1 v0 hHeld
                have hd4 := (Below.refl W4.heap.size W4).drew
                have hkb : KF [bx] W4 (W4.setCell ⟨bx, 0, none⟩ (.int .i64 y)).drew := ((KF.refl [bx] W4).set (p := ⟨bx, 0, none⟩) (.inl (by simp)) _).drew
                have hO6 := hO4.kf hkb (fun q hq => by have := hqb.out q hq; simp; omega)
                have hB6 := (hB4.setCell (p := ⟨bx, 0, none⟩) (by show W2.heap.size ≤ bx; exact hqsz) (.int .i64 y)).drew
                have xb := (xb4.out.set (i := 0) (by simp) (.int .i64 y)).drew
                generalize (W4.setCell ⟨bx, 0, none⟩ (.int .i64 y)).drew = W6 at hO6 hB6 xb ⊢
                clear hkb hd4 hB4 hO4 xb4 hO3 hB3
                have q0 := xb.c 0 _ rfl
                have q1 := xb.c 1 _ rfl
                have hbk := Lib.hid (show Blk (W6.alloc (.cells #[.int .i64 y, .int .i64 0] 60)) W6.heap.size [.int .i64 (headsQ Q t j), .int .i64 0] by rw [hhy.out]; exact blk_new W6 (.int .i64 y) (.int .i64 0) 60)
                have hO8 := Lib.hid (hO6.kf (KF.of (l := []) ((Below.refl W6.heap.size W6).alloc (Nat.le_refl _) (.cells #[.int .i64 y, .int .i64 0] 60))) (fun q hq => by simp))
                have hszA := Lib.hid (show W2.heap.size ≤ (W6.alloc (.cells #[.int .i64 y, .int .i64 0] 60)).heap.size by have := hB6.size; simp; omega)
                replace hB6 := Lib.hid hB6
                replace hO6 := Lib.hid hO6
                clear xb
                go_wp2_with (at_builtin; refine wpList_appH rfl _ _ rfl W2.heap.size (.slice hv j hc) (headsQ Q t) j (by rfl) hO8.out hszA.out (by rfl) hbk.out (by omega) ?_; intro a5 n5 c5 w5 hown5 hn5 hsz5 hgrow5 hor5; obtain rfl : n5 = j + 1 := hn5; have hown5 := Lib.hid hown5; have hgrow5 := Lib.hid hgrow5; clear hor5 hsz5 hbk hO8 q0 q1)
                go_roundw
                case rel => exact ⟨j + 1, a5, c5, rfl, by go_num, hjl, hown5, Lib.hid ((hB6.out.alloc hB6.out.size _).grown hgrow5.out hszA.out (fun q hq => (hO6.out.lt hq).1))⟩
                case measure => simp [intOf]; omega
              · have hpz : ¬ (tj : Int) < (Lj : Int) := by omega
                have hhy : RowKit.Hid (headsQ Q t j = 0) := Lib.hid (headsQ_out (by omega))
                go_big_quiet (fail)
                have hbd := bDrew (Below.refl W3.heap.size W3) nq
                have hO6 := hO3.out.kf (KF.of (l := []) hbd) (fun q hq => by simp)
                have hB6 := hB3.out.trans (hbd.mono hB3.out.size)
                have xb6 := xb.out.bel hbd
                clear xb x0 x1
                generalize W3.drewN nq = W6 at hO6 hB6 xb6 ⊢
                have xb := xb6
                clear xb6
                have q0 := xb.c 0 _ rfl
                have q1 := xb.c 1 _ rfl
                have hbk := Lib.hid (show Blk (W6.alloc (.cells #[.int .i64 0, .int .i64 0] 60)) W6.heap.size [.int .i64 (headsQ Q t j), .int .i64 0] by rw [hhy.out]; exact blk_new W6 (.int .i64 0) (.int .i64 0) 60)
                have hO8 := Lib.hid (hO6.kf (KF.of (l := []) ((Below.refl W6.heap.size W6).alloc (Nat.le_refl _) (.cells #[.int .i64 0, .int .i64 0] 60))) (fun q hq => by simp))
                have hszA := Lib.hid (show W2.heap.size ≤ (W6.alloc (.cells #[.int .i64 0, .int .i64 0] 60)).heap.size by have := hB6.size; simp; omega)
                replace hB6 := Lib.hid hB6
                replace hO6 := Lib.hid hO6
                clear xb
                go_wp2_with (at_builtin; refine wpList_appH rfl _ _ rfl W2.heap.size (.slice hv j hc) (headsQ Q t) j (by rfl) hO8.out hszA.out (by rfl) hbk.out (by omega) ?_; intro a5 n5 c5 w5 hown5 hn5 hsz5 hgrow5 hor5; obtain rfl : n5 = j + 1 := hn5; have hown5 := Lib.hid hown5; have hgrow5 := Lib.hid hgrow5; clear hor5 hsz5 hbk hO8 q0 q1)
                go_roundw
                case rel => exact ⟨j + 1, a5, c5, rfl, by go_num, hjl, hown5, Lib.hid ((hB6.out.alloc hB6.out.size _).grown hgrow5.out hszA.out (fun q hq => (hO6.out.lt hq).1))⟩
                case measure => simp [intOf]; omega
            · obtain rfl : j = i := by omega
              obtain ⟨hg3, rfl, hgb, TH⟩ := hO.out.tags (by omega)
              have hbl := hS.out.hbel.trans (hB.out.mono hS.out.hbel.size)
              have dR := hS.out.hrf.bel hB.out
              have hrl2 := hS.out.hrf.b.l
              have hsl2 := hS.out.hrf.s.l
              have hdl2 := hS.out.hrf.d.l
              have htl2 := hS.out.hrf.tl
              have hinv := hS.out.hinv
              have hm := hS.out.hm
              have hM : ((total - m : Nat) : Int) * PM ≤ 1000000000000000 := by unfold PM; omega
              have hpk := Lib.hid (rpickF_ok dR hinv hM hg3 0 hc (headsQ Q t) nz TH (by omega) (by omega) (by omega) (by omega) (headsQ_ok hgood.out t))
              have hst : pickX j (headsQ Q t) (toldN j (sumW g j) x.V g x.Z x.D x.S x.F (headsQ Q t)) = stepX j (sumW g j) g Q x t := rfl
              rw [hst] at hpk
              obtain ⟨p, hp⟩ : ∃ p, RowKit.Hid (stepX j (sumW g j) g Q x t = p) := ⟨_, Lib.hid rfl⟩
              rw [hp.out] at hpk
              have hO2 := Lib.hid (hS.out.hown.kf (KF.of (l := []) hB.out) (fun q hq => by simp))
              have hA2 := Lib.hid (hS.out.hat.bel hB.out)
              have hd4 := Lib.hid hS.out.d4
              have hinv2 := Lib.hid (hinv.pick (headsQ_ok hgood.out t))
              rw [hst, hp.out] at hinv2
              have hsc := Lib.hid (⟨hS.out.f1, hS.out.f2, hS.out.f3, hS.out.f4, hS.out.f5, hS.out.f6, hS.out.d1⟩ : w.heap.size ≤ B.r ∧ w.heap.size ≤ B.wb ∧ w.heap.size ≤ B.sb ∧ w.heap.size ≤ B.db ∧ w.heap.size ≤ tb ∧ w.heap.size ≤ ab ∧ ab ≠ B.r ∧ ab ≠ B.wb ∧ ab ≠ B.sb ∧ ab ≠ B.db ∧ ab ≠ tb)
              have hdR := Lib.hid (⟨dR.a4, dR.a7, dR.a9, dR.a10⟩ : B.r ≠ tb ∧ B.wb ≠ tb ∧ B.sb ≠ tb ∧ B.db ≠ tb)
              replace hbl := Lib.hid hbl
              clear hO TH dR hst hinv hM
              obtain ⟨pk, pok, px⟩ := p
              have hok : pok = true := by
                cases pok with
                | true => rfl
                | false =>
                  have h1 := stepX_no (x := x) (W := g) (ALL := sumW g j) (t := t) hgood.out (by rw [hp.out])
                  have h2 := hS.out.hleft
                  omega
              subst hok
              obtain ⟨k, hk1, hk2, hk3⟩ := stepX_yes (x := x) (W := g) (ALL := sumW g j) (t := t) hgood.out (by rw [hp.out])
              rw [hp.out] at hk1
              obtain rfl : pk = (k : Int) := hk1
              have htk := hS.out.ht
              have hstepQ := Lib.hid (leftQ_step (Q := Q) (t := t) hk3 j hk2)
              have hlf := Lib.hid hS.out.hleft
              have hlnO := Lib.hid hS.out.hln
              have hall2 := hS.out.hall
              have hlen1000 : (Q k).length ≤ 1000 := by
                have h1 := leftQ_mono (Q := Q) (t := t0) (i := k + 1) j (by omega)
                have h0 : leftQ Q t0 (k + 1) = leftQ Q t0 k + ((Q k).length - t0 k) := rfl
                have h3 : t0 k = 0 := rfl
                have h2 := htot2.out
                omega
              obtain ⟨m', rfl⟩ : ∃ m', m = m' + 1 := ⟨m - 1, by omega⟩
              simp only [servedN] at hall2
              rw [hp.out] at hall2
              simp only [if_true, Int.toNat_natCast] at hall2
              replace hall2 := Lib.hid hall2
              replace htk := Lib.hid htk
              have hsz2 := hB.out.size
              go_wp2_with fail
              refine hpk.out.mono ?_
              rintro e w4 ⟨tb4, ct4, rfl, F4, ht4, k4⟩
              have hkz : (k : Int) < (j : Int) := by omega
              have hs := hsc.out
              have hd := hdR.out
              have hA4 := k4.blk hA2.out (by simp [RB.l]; omega)
              have hO4 := Lib.hid (hO2.out.kf k4 (fun q hq => by have := hd4.out q hq; simp [RB.l]; omega))
              have hb4 := Lib.hid (hbl.out.trans (k4.below (fun q hq => by simp [RB.l] at hq; omega) hbl.out.size))
              have x0 := hA4.c k _ (iC_at (tI t) j k hk2)
              simp only [tI] at x0
              have z0 := hA4.f k
              have hwr2 := hbl.out.size
              have hal := hA2.out.l
              have ht5 : RowKit.Hid (w.heap.size ≤ tb4 ∧ ab ≠ tb4) := Lib.hid (by
                rcases ht4 with e | e
                · rw [e]; exact ⟨hs.2.2.2.2.1, hs.2.2.2.2.2.2.2.2.2.2⟩
                · exact ⟨by omega, by omega⟩)
              have htkk : t k < (Q k).length := hk3
              obtain ⟨tk, et⟩ : ∃ n, t k = n := ⟨_, rfl⟩
              have etH := Lib.hid et
              rw [et] at x0 htkk
              have htz : (tk : Int) ≤ 1000 := by omega
              have hkb : KF [ab] w4 (w4.setCell ⟨ab, k, none⟩ (.int .i64 ((tk : Int) + 1))) := (KF.refl [ab] w4).set (p := ⟨ab, k, none⟩) (.inl (by simp)) _
              have hA5 : RowKit.Hid (Blk (w4.setCell ⟨ab, k, none⟩ (.int .i64 ((tk : Int) + 1))) ab (iC (tI (upn t k (t k + 1))) j)) := Lib.hid (by
                rw [← tI_up, etH.out, ← iC_set]
                exact hA4.set (by rw [iC_len]; exact hk2) _)
              have hq5 : RowKit.Hid (∀ q, (Value.slice ov on oc).ownBlock = some q → q ≠ tb4 ∧ q < w4.heap.size) := Lib.hid (fun q hq => by
                have h1 := hd4.out q hq
                refine ⟨?_, (hO4.out.lt hq).2⟩
                rcases ht4 with e | e
                · rw [e]; exact h1.2.2.2.2.1
                · have := (hO2.out.lt hq).2; omega)
              have F5 := Lib.hid (RF.kf hkb F4 (by simp; omega) (by simp; omega) (by simp; omega) (by simp; omega) (by simp; exact fun e => ht5.out.2 e.symm))
              have hO5 := Lib.hid (hO4.out.kf hkb (fun q hq => by have := hd4.out q hq; simp; omega))
              have hB5 := Lib.hid (hb4.out.setCell (p := ⟨ab, k, none⟩) (show w.heap.size ≤ ab from hs.2.2.2.2.2.1) (.int .i64 ((tk : Int) + 1)))
              have htk5 : RowKit.Hid (∀ i, i < j → upn t k (t k + 1) i ≤ (Q i).length) := Lib.hid (fun i hi => by
                unfold upn
                split
                · rename_i e; subst e; omega
                · exact htk.out i hi)
              replace hq5 : RowKit.Hid (∀ q, (Value.slice ov on oc).ownBlock = some q → q ≠ tb4 ∧ q < (w4.setCell ⟨ab, k, none⟩ (.int .i64 ((tk : Int) + 1))).heap.size) := Lib.hid (fun q hq => by have := hq5.out q hq; simp; exact this)
              clear hS F4 hA4 hO4 hb4 k4 ht4 hkb hO2 hA2 hbl hpk et hs hd hB
              go_upto_region 33 with fail
              clear x0 z0
              generalize w4.setCell ⟨ab, k, none⟩ (.int .i64 ((tk : Int) + 1)) = w5 at hq5 hA5 F5 hO5 hB5 ⊢
              have ha := (Below.refl w5.heap.size w5).alloc (Nat.le_refl _) (.cells #[.int .i64 (k : Nat)] 3)
              have hbk5 := Lib.hid (blkN_new w5 [.int .i64 (k : Nat)] 3)
              have hO6 := Lib.hid (hO5.out.kf (KF.of (l := []) ha) (fun q hq => by simp))
              have hszA := Lib.hid (show w.heap.size ≤ (w5.alloc (.cells #[.int .i64 (k : Nat)] 3)).heap.size by have := hB5.out.size; simp; omega)
              have hlo : out.length ≤ 1000000 := by have := hlnO.out; omega
              have hFK := Lib.hid (fun (wz : World) (hgz : (w5.alloc (.cells #[.int .i64 (k : Nat)] 3)).grownBy wz (Value.slice ov on oc).ownBlock) => (⟨RF.grown F5.out hgz (fun q hq => by have h1 := hd4.out q hq; exact ⟨h1.1, h1.2.1, h1.2.2.1, h1.2.2.2.1, (hq5.out q hq).1⟩), (KF.grown2 (l := (Value.slice ov on oc).ownBlock.toList) ((KF.refl _ w5).alloc _) hgz (fun q e => by rw [e]; simp)).blk hA5.out (fun e => (hd4.out ab (by simpa using e)).2.2.2.2.2 rfl), (hB5.out.alloc hB5.out.size _).grown hgz hszA.out (fun q hq => (hO5.out.lt hq).1)⟩ : RF wz B tb4 ct4 j (sumW g j) px.V g px.Z px.D px.S px.F ∧ Blk wz ab (iC (tI (upn t k (t k + 1))) j) ∧ Below w.heap.size w wz))
              go_wp2_with (at_builtin; refine wpList_appZ rfl _ _ rfl w.heap.size (.slice ov on oc) out (k : Int) (by rfl) hO6.out hszA.out (by rfl) hbk5.out hlo ?_; intro a6 n6 c6 w6 hown6 hn6 hsz6 hgrow6 hor6; obtain rfl : n6 = out.length + 1 := hn6; have hown6 := Lib.hid hown6; have hor6 := Lib.hid hor6; have hK6 := Lib.hid (hFK.out w6 hgrow6); clear hsz6 hbk5 hO6 hFK hgrow6)
              go_roundw
              case rel =>
                have hs := hsc.out
                refine ⟨px, upn t k (t k + 1), m', out ++ [(k : Int)], a6, out.length + 1, c6, tb4, ct4, by first | rfl | (congr 1; omega), rfl, Lib.hid (by simp), by omega, Lib.hid ⟨hK6.out.1, ?_, by omega, ?_, ?_, ?_, hown6.out, hK6.out.2.1, htk5.out, hK6.out.2.2, hs.1, hs.2.1, hs.2.2.1, hs.2.2.2.1, ht5.out.1, hs.2.2.2.2.2.1, ⟨hs.2.2.2.2.2.2.1, hs.2.2.2.2.2.2.2.1, hs.2.2.2.2.2.2.2.2.1, hs.2.2.2.2.2.2.2.2.2.1, ht5.out.2⟩, fun q hq => ?_⟩⟩
                · have := hinv2.out
                  have e : ((total - m' : Nat) : Int) * PM = ((total - (m' + 1) : Nat) : Int) * PM + PM := by
                    have : total - m' = total - (m' + 1) + 1 := by omega
                    rw [this]
                    push_cast
                    rw [Int.add_mul, Int.one_mul]
                  rw [e]
                  exact this
                · have := hstepQ.out; have := hlf.out; omega
                · have := hall2.out
                  rw [List.append_assoc]
                  exact this
                · have := hlnO.out; simp; omega
                · rcases hor6.out with e | e
                  · rw [e] at hq
                    have h1 := hd4.out q hq
                    exact ⟨h1.1, h1.2.1, h1.2.2.1, h1.2.2.2.1, (hq5.out q hq).1, h1.2.2.2.2.2⟩
                  · rw [e] at hq
                    simp at hq
                    have h1 := F5.out.b.l
                    have h2 := F5.out.wr.l
                    have h3 := F5.out.s.l
                    have h4 := F5.out.d.l
                    have h5 := F5.out.tl
                    have h6 := hA5.out.l
                    exact ⟨by omega, by omega, by omega, by omega, by omega, by omega⟩
              case measure => first | (simp [intOf]; done) | (simp [intOf]; omega)
end Go.Proofs.Ytbbcongfaoopcaa
namespace Go.Proofs.Ytbbcongfaoopcaa
open Go.ChangeShapes Go.WideShapes Go.ChangeAt Go.RowKit Go.Maps
set_option linter.unusedVariables false
set_option linter.unusedSimpArgs false
open BigFrame Pk Fq Vr Fa

set_option maxRecDepth 100000 in
set_option maxHeartbeats 4000000 in
theorem rfrun_nonew (w : World) (a a2 : Option Addr) (n c n2 c2 : Nat) (hnew : Calls Try.prog 14 #[.slice a n c] w (NoNew w)) :
    Calls Try.prog 10 #[.slice a n c, .slice a2 n2 c2] w (RunP w []) := by
  replace hnew := Lib.hid hnew
  go_enter Try.func10, Try.ntmps10
  go_wp2_with fail
  refine hnew.out.mono ?_
  rintro e w1 ⟨rfl, hB1⟩
  replace hB1 := Lib.hid hB1
  clear hnew
  go_wp2_with fail
  exact bodyPost_ret (v := .slice none 0 0) (by simp [results, Try.results10, go_sem]) rfl (runP_nil hB1.out)

set_option maxRecDepth 100000 in
set_option maxHeartbeats 4000000 in
theorem rfrun_len (w : World) (a2 : Option Addr) (b off N c n2 c2 : Nat) (g : Nat → Int) (h1 : 1 ≤ N) (h8 : N ≤ 8) (hb : b < w.heap.size) (hc : ∀ i, i < N → w.cell? ⟨b, off + i, none⟩ = some (.int .i64 (g i))) (hg : ∀ i, i < N → 1 ≤ g i ∧ g i ≤ 16) (hne : n2 ≠ N) :
    Calls Try.prog 10 #[.slice (some ⟨b, off, none⟩) N c, .slice a2 n2 c2] w (RunP w []) := by
  have hnew := Lib.hid (rfnew_ok w b off N c g h1 h8 hb hc hg)
  have hne2 : ¬ (n2 : Int) = (N : Int) := by omega
  clear hc hg hne
  go_enter Try.func10, Try.ntmps10
  go_wp2_with fail
  refine hnew.out.mono ?_
  rintro e w1 ⟨B, tb, ct, rfl, hF, hf1, hf2, hf3, hf4, hf5, hB1⟩
  replace hB1 := Lib.hid hB1
  clear hnew hF
  go_wp2_with fail
  exact bodyPost_ret (v := .slice none 0 0) (by simp [results, Try.results10, go_sem]) rfl (runP_nil hB1.out)

set_option maxRecDepth 100000 in
set_option maxHeartbeats 20000000 in
theorem rfrun_bad (w : World) (b off N c c2 b2 off2 : Nat) (g : Nat → Int) (a2 : Option Addr) (A : Nat → Option Addr) (L C : Nat → Nat) (Q : Nat → List Int) (h1 : 1 ≤ N) (h8 : N ≤ 8) (hb : b < w.heap.size) (hc : ∀ i, i < N → w.cell? ⟨b, off + i, none⟩ = some (.int .i64 (g i))) (hg : ∀ i, i < N → 1 ≤ g i ∧ g i ≤ 16)
    (T : QsAt w a2 b2 off2 N A L C Q) (hl : ∀ i, i < N → L i ≤ 200) (hno : ¬ (goodQ Q N ∧ leftQ Q t0 N ≤ 1000)) :
    Calls Try.prog 10 #[.slice (some ⟨b, off, none⟩) N c, .slice a2 N c2] w (RunP w []) := by
  have hN1 : (1 : Int) ≤ (N : Int) := by omega
  have hN8 : (N : Int) ≤ 8 := by omega
  have hnew := Lib.hid (rfnew_ok w b off N c g h1 h8 hb hc hg)
  obtain rfl := T.ha (by omega)
  have hb2 := T.hb (by omega)
  replace T := Lib.hid T
  replace hno := Lib.hid hno
  replace hg := Lib.hid hg
  replace hl := Lib.hid hl
  clear hc
  go_enter Try.func10, Try.ntmps10
  go_wp2_with fail
  refine hnew.out.mono ?_
  rintro e w1 ⟨B, tb, ct, rfl, hF, hf1, hf2, hf3, hf4, hf5, hB1⟩
  have T1 := Lib.hid (T.out.bel hB1)
  replace hF := Lib.hid hF
  replace hB1 := Lib.hid hB1
  clear hnew
  go_wp2_with fail
  go_loopw [4, 7, 8, 9, 10] (fun s4 s7 s8 s9 _ wr => ∃ (i : Nat) (av : Option Addr) (ac : Nat), s4 = .slice none 0 0 ∧ s7 = .int .i64 ((leftQ Q t0 i : Nat) : Int) ∧ s8 = .slice av i ac ∧ s9 = .int .i64 (i : Nat) ∧ i ≤ N ∧ RowKit.Hid (OwnI wr w1.heap.size (.slice av i ac) nz i) ∧ RowKit.Hid (Below w1.heap.size w1 wr) ∧ RowKit.Hid (goodQ Q i ∧ leftQ Q t0 i ≤ 1000)) (fun _ _ _ s9 _ _ => N - (intOf s9).toNat)
  case atStart => exact ⟨0, none, 0, rfl, rfl, rfl, rfl, Nat.zero_le _, Lib.hid (OwnI.nil _ _ _), Lib.hid (Below.refl _ _), Lib.hid ⟨fun i hi => by omega, by simp [leftQ]⟩⟩
  case round =>
    obtain ⟨i, av, ac, rfl, rfl, rfl, rfl, hi, hO, hB, hgq⟩ := hrel
    have ii : (i : Int) ≤ (N : Int) := by omega
    by_cases hlt : i < N
    · have ii1 : (i : Int) < (N : Int) := by omega
      have x0 := (T1.out.bel hB.out).c0 i hlt
      have hq := T1.out.q i hlt
      have hlen := hq.len
      have hcap := hq.cap
      have hmax := hq.max
      have hli := hl.out i hlt
      have hs1 := hgq.out.2
      have hstep : leftQ Q t0 (i + 1) = leftQ Q t0 i + L i := by simp only [leftQ, t0]; omega
      obtain ⟨Li, eL⟩ : ∃ n, L i = n := ⟨_, rfl⟩
      obtain ⟨Ci, eC⟩ : ∃ n, C i = n := ⟨_, rfl⟩
      obtain ⟨Ai, eA⟩ : ∃ n, A i = n := ⟨_, rfl⟩
      obtain ⟨S, eS⟩ : ∃ n, leftQ Q t0 i = n := ⟨_, rfl⟩
      rw [eL, eC] at hcap
      rw [eC] at hmax
      rw [eL] at hlen hli
      rw [eS] at hs1
      rw [eL, eC, eA] at hq x0
      rw [eS, eL] at hstep
      replace hstep := Lib.hid hstep
      have hle2 : ((S : Nat) : Int) + (Li : Int) ≤ 1200 := by omega
      replace hq := Lib.hid hq
      replace hlen := Lib.hid hlen
      have eLH := Lib.hid eL
      have eCH := Lib.hid eC
      have eAH := Lib.hid eA
      clear eL eC eA
      rw [eS]
      clear eS
      have ha := (Below.refl wr.heap.size wr).alloc (Nat.le_refl _) (.cells #[.int .i64 0] 3)
      have hU := Lib.hid (hO.out.kf (KF.of (l := []) ha) (fun q _ => by simp))
      have hbk := Lib.hid (blkN_new wr [.int .i64 0] 3)
      have hszA := Lib.hid (show w1.heap.size ≤ (wr.alloc (.cells #[.int .i64 0] 3)).heap.size by have := hB.out.size; simp; omega)
      clear ha
      go_upto_region 11 with (at_builtin; refine wpList_appI rfl _ _ rfl w1.heap.size (.slice av i ac) nz i (by rfl) hU.out hszA.out (by rfl) hbk.out (by omega) ?_; intro a8 n8 c8 w8 hown8 hn8 hsz8 hgrow8 hor8; obtain rfl : n8 = i + 1 := hn8; have hown8 := Lib.hid hown8; have hB8 := Lib.hid ((hB.out.alloc hB.out.size _).grown hgrow8 hszA.out (fun q e => (hU.out.lt e).1)); clear hgrow8 hor8 hsz8 hbk hszA hU)
      have x8 := (T1.out.bel hB8.out).c0 i hlt
      have hq8 := Lib.hid (hq.out.bel hB8.out)
      rw [eLH.out, eCH.out, eAH.out] at x8
      clear x0 hO hB hq
      have hend := Lib.hid (hB1.out.trans (hB8.out.mono hB1.out.size))
      by_cases hbig : S + Li ≤ 1000
      · have hle : ((S : Nat) : Int) + (Li : Int) ≤ 1000 := by omega
        go_wp2_with fail
        go_loopw [4, 10] (fun s4 s10 wr => ∃ (j : Nat), s4 = .slice none 0 0 ∧ s10 = .int .i64 (j : Nat) ∧ j ≤ Li ∧ wr = w8 ∧ RowKit.Hid (∀ q y, q < j → (Q i)[q]? = some y → 1 ≤ y ∧ y ≤ 1500)) (fun _ s10 _ => Li - (intOf s10).toNat)
        case atStart => exact ⟨0, rfl, rfl, Nat.zero_le _, rfl, Lib.hid (fun q y hq => by omega)⟩
        case round =>
          obtain ⟨j, rfl, rfl, hj, rfl, hsf⟩ := hrel
          have jj : (j : Int) ≤ (Li : Int) := by omega
          by_cases hjl : j < Li
          · have jj1 : (j : Int) < (Li : Int) := by omega
            obtain ⟨bj, oj, rfl, hbj, hcj⟩ := hq8.out.row (by omega)
            obtain ⟨y, hy⟩ : ∃ y, (Q i)[j]? = some y := ⟨_, List.getElem?_eq_getElem (by have := hlen.out; omega)⟩
            have y0 := hcj j y hy
            replace hcj := Lib.hid hcj
            replace hy := Lib.hid hy
            by_cases g3 : y < 1
            · go_wp2_with fail
              exact bodyPost_ret (v := .slice none 0 0) (by simp [results, Try.results10, go_sem]) rfl (runP_nil hend.out)
            · by_cases g4 : 1500 < y
              · go_wp2_with fail
                exact bodyPost_ret (v := .slice none 0 0) (by simp [results, Try.results10, go_sem]) rfl (runP_nil hend.out)
              · go_wp2_with fail
                go_roundw
                case rel =>
                  refine ⟨j + 1, rfl, by go_num, hjl, by first | rfl | trivial, Lib.hid (fun q z hq hz => ?_)⟩
                  by_cases e : q = j
                  · subst e
                    rw [hy.out] at hz
                    cases hz
                    exact ⟨by omega, by omega⟩
                  · exact hsf.out q z (by omega) hz
                case measure => simp [intOf]; omega
          · obtain rfl : j = Li := by omega
            have hgood2 : RowKit.Hid (goodQ Q (i + 1) ∧ leftQ Q t0 (i + 1) ≤ 1000) := Lib.hid ⟨fun k hk x hx => by
              by_cases e : k = i
              · subst e
                obtain ⟨q, hq⟩ := List.getElem?_of_mem hx
                exact hsf.out q x (by have := (List.getElem?_eq_some_iff.1 hq).1; have := hlen.out; omega) hq
              · exact hgq.out.1 k (by omega) x hx, by have := hstep.out; omega⟩
            go_wp2_with fail
            go_roundw
            case rel => exact ⟨i + 1, a8, c8, rfl, by rw [hstep.out]; push_cast; rfl, rfl, by go_num, hlt, hown8, hB8, hgood2⟩
            case measure => simp [intOf]; omega
      · have hle : 1000 < ((S : Nat) : Int) + (Li : Int) := by omega
        go_wp2_with fail
        exact bodyPost_ret (v := .slice none 0 0) (by simp [results, Try.results10, go_sem]) rfl (runP_nil hend.out)
    · obtain rfl : i = N := by omega
      exact absurd hgq.out hno.out
theorem rfrun_c (w : World) (aw a2 : Option Addr) (nw cw nq c2 b2 off2 : Nat) (dw : List Int) (A : Nat → Option Addr) (L C : Nat → Nat) (Q : Nat → List Int) (Wt : IAt w aw nw cw dw) (T : QsAt w a2 b2 off2 nq A L C Q) (hl : ∀ i, i < nq → L i ≤ 200) :
    Calls Try.prog 10 #[.slice aw nw cw, .slice a2 nq c2] w (RunP w (runR dw nq Q)) := by
  have hlen := Wt.len
  unfold runR
  by_cases hlw : dw.length < 1 ∨ 8 < dw.length
  · rw [if_neg (fun q => by have := q.1.1; have := q.1.2.1; omega)]
    exact rfrun_nonew w aw a2 nw cw nq c2 (rfnew_len w aw nw cw (by omega))
  · obtain ⟨b, off, rfl, hb, hc⟩ := Wt.row (by omega)
    have hc2 : ∀ i, i < nw → w.cell? ⟨b, off + i, none⟩ = some (.int .i64 (gd dw i)) := fun i hi => hc i _ (gd_at (by omega))
    by_cases hgood : ∀ i, i < nw → 1 ≤ gd dw i ∧ gd dw i ≤ 16
    · have hnok : newOk dw := ⟨by omega, by omega, fun x hx => by
        obtain ⟨i, hi, rfl⟩ := List.getElem_of_mem hx
        have := hgood i (by omega)
        have e := gd_at hi
        rw [List.getElem?_eq_getElem hi] at e
        injection e with e
        rw [e]; exact this⟩
      by_cases hnq : nq = nw
      · subst hnq
        by_cases hq : goodQ Q nq ∧ leftQ Q t0 nq ≤ 1000
        · rw [if_pos ⟨hnok, hlen.symm, hq.1, hq.2⟩]
          exact rfrun_ok w b off nq cw c2 b2 off2 (gd dw) a2 A L C Q (by omega) (by omega) hb hc2 hgood T hq.1 hq.2
        · rw [if_neg (fun q => hq q.2.2)]
          exact rfrun_bad w b off nq cw c2 b2 off2 (gd dw) a2 A L C Q (by omega) (by omega) hb hc2 hgood T hl hq
      · rw [if_neg (fun q => hnq (by rw [q.2.1, hlen]))]
        exact rfrun_len w a2 b off nw cw nq c2 (gd dw) (by omega) (by omega) hb hc2 hgood hnq
    · rw [if_neg (fun q => hgood (fun i hi => q.1.2.2 _ (gd_mem (by omega))))]
      refine rfrun_nonew w _ a2 nw cw nq c2 ?_
      obtain ⟨m, hm, hbad, hmin⟩ := leastBad (fun i => 1 ≤ gd dw i ∧ gd dw i ≤ 16) nw hgood
      exact rfnew_bad w b off nw cw (gd dw) (by omega) (by omega) hb hc2 m hm hmin (by omega)
end Go.Proofs.Ytbbcongfaoopcaa
namespace Go.Proofs.Ytbbcongfaoopcaa
open Go.ChangeShapes Go.WideShapes Go.ChangeAt Go.RowKit Go.Maps
set_option linter.unusedVariables false
set_option linter.unusedSimpArgs false
open BigFrame Pk Fq Vr Fa

set_option maxRecDepth 100000 in
set_option maxHeartbeats 8000000 in
theorem fruns_great (w : World) (aw aq : Option Addr) (nw cw nq cq : Nat) (h : 20 < nw ∨ 20 < nq) :
    Calls Try.prog 3 #[.slice aw nw cw, .slice aq nq cq] w fun e w' => e = .returned (.bool true) ∧ Below w.heap.size w w' := by
  by_cases h1 : 20 < nw
  · have h1z : (20 : Int) < (nw : Int) := by omega
    clear h
    go_enter Try.func3, Try.ntmps3
    go_wp2_with fail
    refine (wakes26_c _).mono ?_
    rintro e w3 ⟨rfl, hb⟩
    replace hb := Lib.hid hb
    go_wp2_with fail
    exact bodyPost_ret (v := .bool true) (by simp [results, Try.results3, go_sem]) rfl ⟨rfl, hb.out⟩
  · have h1z : ¬ (20 : Int) < (nw : Int) := by omega
    have h2z : (20 : Int) < (nq : Int) := by omega
    clear h
    go_enter Try.func3, Try.ntmps3
    go_wp2_with fail
    refine (wakes26_c _).mono ?_
    rintro e w3 ⟨rfl, hb⟩
    replace hb := Lib.hid hb
    go_wp2_with fail
    exact bodyPost_ret (v := .bool true) (by simp [results, Try.results3, go_sem]) rfl ⟨rfl, hb.out⟩

set_option maxRecDepth 100000 in
set_option maxHeartbeats 20000000 in
theorem fruns_c (w : World) (aw aq : Option Addr) (nw cw nq cq b2 off2 : Nat) (dw : List Int) (A : Nat → Option Addr) (L C : Nat → Nat) (Q : Nat → List Int) (Wt : IAt w aw nw cw dw) (T : QsAt w aq b2 off2 nq A L C Q) (hw : nw ≤ 20) (hq : nq ≤ 20) :
    Calls Try.prog 3 #[.slice aw nw cw, .slice aq nq cq] w fun e w' => e = .returned (.bool true) ∧ Below w.heap.size w w' := by
  have hwz : ¬ (20 : Int) < (nw : Int) := by omega
  have hqz : ¬ (20 : Int) < (nq : Int) := by omega
  replace Wt := Lib.hid Wt
  replace T := Lib.hid T
  go_enter Try.func3, Try.ntmps3
  go_wp2_with fail
  go_loopw [4, 5] (fun _ s5 wr => ∃ (i : Nat), s5 = .int .i64 (i : Nat) ∧ i ≤ nq ∧ wr = w ∧ RowKit.Hid (∀ j, j < i → L j ≤ 200)) (fun _ s5 _ => nq - (intOf s5).toNat)
  case atStart => exact ⟨0, rfl, Nat.zero_le _, rfl, Lib.hid (fun j hj => by omega)⟩
  case round =>
    obtain ⟨i, rfl, hi, rfl, hls⟩ := hrel
    have ii : (i : Int) ≤ (nq : Int) := by omega
    by_cases hlt : i < nq
    · have ii1 : (i : Int) < (nq : Int) := by omega
      obtain rfl := T.out.ha (by omega)
      have x0 := T.out.c0 i hlt
      obtain ⟨Li, eL⟩ : ∃ n, L i = n := ⟨_, rfl⟩
      rw [eL] at x0
      have eL2 := Lib.hid eL
      clear eL
      by_cases hbig : 200 < Li
      · have hbz : (200 : Int) < (Li : Int) := by omega
        go_wp2_with fail
        refine (wakes26_c _).mono ?_
        rintro e w3 ⟨rfl, hb⟩
        replace hb := Lib.hid hb
        go_wp2_with fail
        exact bodyPost_ret (v := .bool true) (by simp [results, Try.results3, go_sem]) rfl ⟨rfl, hb.out⟩
      · have hbz : (Li : Int) ≤ 200 := by omega
        go_wp2_with fail
        go_roundw
        case rel =>
          refine ⟨i + 1, by go_num, hlt, by first | rfl | trivial, Lib.hid (fun j hj => ?_)⟩
          by_cases e : j = i
          · subst e; rw [eL2.out]; omega
          · exact hls.out j (by omega)
        case measure => simp [intOf]; omega
    · obtain rfl : i = nq := by omega
      have hr := Lib.hid (frun_c wr aw aq nw cw i cq b2 off2 dw A L C Q Wt.out T.out hls.out)
      go_wp2_with fail
      refine hr.out.mono ?_
      rintro e w1 ⟨a1, n1, c1, rfl, hn1, hO1, hB1⟩
      have R1 := Lib.hid (hO1.rd hn1 (by have := runR_len (dw := dw) (nq := i) (Q := Q); omega))
      have hr2 := Lib.hid (rfrun_c w1 aw aq nw cw i cq b2 off2 dw A L C Q (Wt.out.bel hB1) (T.out.bel hB1) hls.out)
      replace hB1 := Lib.hid hB1
      clear hr hO1 hn1
      go_wp2_with fail
      refine hr2.out.mono ?_
      rintro e w2 ⟨a2, n2, c2, rfl, hn2, hO2, hB2⟩
      have R2 := hO2.rd hn2 (by have := runR_len (dw := dw) (nq := i) (Q := Q); omega)
      have hw := row_c w2 a1 a2 n1 c1 n2 c2 _ _ (R1.out.bel hB2) R2
      rw [decide_eq_true rfl] at hw
      have hB2' := Lib.hid (hB1.out.trans (hB2.mono hB1.out.size))
      replace hw := Lib.hid hw
      clear hr2 hO2 hn2 R1 R2 hB1 hB2
      go_wp2_with fail
      refine hw.out.mono ?_
      rintro e w3 ⟨rfl, hb⟩
      have hB3' := Lib.hid (hB2'.out.trans (hb.mono hB2'.out.size))
      clear hw hb hB2'
      go_wp2_with fail
      refine (wakes26_c _).mono ?_
      rintro e w4 ⟨rfl, hb⟩
      have hF := Lib.hid (hB3'.out.trans (hb.mono hB3'.out.size))
      clear hb
      go_wp2_with fail
      exact bodyPost_ret (v := .bool true) (by simp [results, Try.results3, go_sem]) rfl ⟨rfl, hF.out⟩
theorem fairRuns_walk (w : World) (v0 : Value) (a0 : XT_Lint) (v1 : Value) (a1 : XT_LLint) (w0 : Is_Lint w v0 a0) (w1 : Is_LLint w v1 a1) :
    Calls Try.prog 3 #[v0, v1] w fun e w' => e = .returned (.bool true) ∧ Below w.heap.size w w' := by
  obtain ⟨rfl, W0⟩ := w0
  obtain ⟨rfl, _, _, T0⟩ := w1
  by_cases h : 20 < a0.n ∨ 20 < a1.n
  · exact fruns_great w a0.a a1.a a0.n a0.c a1.n a1.c h
  · exact fruns_c w a0.a a1.a a0.n a0.c a1.n a1.c a1.b a1.off a0.d a1.A a1.L a1.C a1.Q W0 T0 (by omega) (by omega)
end Go.Proofs.Ytbbcongfaoopcaa
