/- Both desks: acts. -/
import Derived.Test.YtifohibpcngakaaD14
namespace Go.Proofs.Ytifohibpcngakaa
open Go.ChangeShapes Go.WideShapes Go.ChangeAt Go.RowKit Go.Maps
set_option linter.unusedVariables false
set_option linter.unusedSimpArgs false
open BigFrame Bs Gr

namespace Gr
def MadeB (X : List Nat) (w0 : World) (B d bm r : Nat) (TI RH OV EL : Int) (i : Nat) (k v : Int) (w : World) (e : Ending) (u1 : World) : Prop :=
  ∃ z : Int, e = .returned (.int .i64 z) ∧ Kp (mm B X) w u1 ∧ Calls Try.prog 14 #[.pointer (some ⟨r, 0, none⟩), .int .i64 k, .int .i64 v] u1 fun e2 u2 => e2 = .returned (.int .i64 z) ∧ Kp (mm B X) u1 u2 ∧ PlX X w0 B d bm r TI RH OV EL (i + 1) u2
def GoneB (X : List Nat) (w0 : World) (B d bm r : Nat) (TI RH OV EL : Int) (i : Nat) (s : Value) (w : World) (e : Ending) (u1 : World) : Prop :=
  e = .returned (.int .i64 0) ∧ Kp (mm B X) w u1 ∧ Calls Try.prog 15 #[.pointer (some ⟨r, 0, none⟩), s] u1 fun e2 u2 => e2 = .returned (.int .i64 0) ∧ Kp (mm B X) u1 u2 ∧ PlX X w0 B d bm r TI RH OV EL i u2
def OverB (X : List Nat) (w0 : World) (B d bm r : Nat) (TI RH OV EL : Int) (i : Nat) (s : Value) (k : Int) (w : World) (e : Ending) (u1 : World) : Prop :=
  ∃ (a1 : Option Addr) (n c1 : Nat), e = .returned (.slice a1 n c1) ∧ Kp (mm B X) w u1 ∧ Calls Try.prog 17 #[.pointer (some ⟨r, 0, none⟩), stV s, .int .i64 k] u1 fun e2 u2 => ∃ (a2 : Option Addr) (c2 : Nat), e2 = .returned (.slice a2 n c2) ∧ Kp (mm B X) u1 u2 ∧ PlX X w0 B d bm r TI RH OV EL i u2 ∧
    Calls Try.prog 16 #[.slice a1 n c1, .slice a2 n c2] u2 fun e3 u3 => e3 = .returned (.bool true) ∧ Below u2.heap.size u2 u3
section
variable {X : List Nat} {w0 : World} {B d bm r : Nat} {TI RH OV EL : Int} {i : Nat} {w w' : World}
theorem mD_X {lv tv : Value} : ∀ b, mm B X b → mD B X r lv tv b := fun b h => .inl h
theorem mR_X {Y : List Nat} (hs : ∀ x ∈ X, x ∈ Y) : ∀ b, mm B X b → mR B Y d bm b := fun b h => .inl (mm_sub hs b h)
end
theorem Ints.sub {m m2 : Nat → Prop} {w : World} {a : Option Addr} {N : Nat} {f : Nat → Int} (h : Ints m w a N f) (hs : ∀ b, m b → m2 b) : Ints m2 w a N f := fun hp => by
  obtain ⟨b, off, e, hm, r⟩ := h hp
  exact ⟨b, off, e, hs b hm, r⟩
theorem Lss.sub {m m2 : Nat → Prop} {w : World} {a : Option Addr} {N : Nat} {f : Nat → Int} (h : Lss m w a N f) (hs : ∀ b, m b → m2 b) : Lss m2 w a N f := fun hp => by
  obtain ⟨b, off, e, hm, r⟩ := h hp
  exact ⟨b, off, e, hs b hm, r⟩
end Gr
section
variable {X : List Nat} {w0 : World} {B d bm r : Nat} {TI RH OV EL : Int} {i : Nat} {w w' : World}
theorem made_both (h : PlX X w0 B d bm r TI RH OV EL i w) (hi : i ≤ 1000) (he : 0 ≤ EL) (k v : Int) (hk : k ≤ 9223372036854775807) (hv : v ≤ 9223372036854775807) :
    Calls Try.prog 11 #[.pointer (some ⟨d, 0, none⟩), .int .i64 k, .int .i64 v] w (MadeB X w0 B d bm r TI RH OV EL i k v w) := by
  have h' := h
  obtain ⟨n, NO, Q, lv, tv, hP, h2, h3⟩ := h
  by_cases hb : k < 1 ∨ v < EL
  · refine (made_no hP.dk k v hb).mono ?_
    rintro e u ⟨he, rfl⟩
    exact ⟨2, he, Kp.refl _ _, (rmade_no hP.rr k v hb).mono (by rintro e2 u2 ⟨he2, rfl⟩; exact ⟨he2, Kp.refl _ _, h'.mono (by omega)⟩)⟩
  · refine (made_ok hP.dk k v (by omega) (by omega) he (by omega)).mono ?_
    rintro e u1 ⟨he2, hD, k1⟩
    have hR := hP.rd (Y := X) k1 (fun y hy => .inl hy) ⟨hD.b.l, hD.t.lt⟩
    refine ⟨0, he2, k1.sub mD_X, (rmade_ok hR k v (by omega) (by omega) (by omega)).mono ?_⟩
    rintro e2 u2 ⟨he3, ⟨lv2, tv2, hR2⟩, k2⟩
    rw [← lk_madeQ] at hD
    have hno := hP.no
    refine ⟨he3, k2.sub (mR_X (fun _ h => h)), n + 1, _, _, lv2, tv2, hP.both k1 hD (fun _ h => h) k2 hR2 (madeQ_nodup hP.nd) (by omega) (madeQ_tt hP.tt (by omega)), by omega, Nat.le_trans (madeQ_len Q k v) (by omega)⟩
theorem gone_both (h : PlX X w0 B d bm r TI RH OV EL i w) (hi : i ≤ 1000) (a : Option Addr) (N c : Nat) (f : Nat → Int) (hN : N ≤ 1000) (hf : Ints (mm B X) w a N f) :
    Calls Try.prog 12 #[.pointer (some ⟨d, 0, none⟩), .slice a N c] w (GoneB X w0 B d bm r TI RH OV EL i (.slice a N c) w) := by
  obtain ⟨n, NO, Q, lv, tv, hP, h2, h3⟩ := h
  refine (gone_ok hP.dk a N c f (by omega) (hf.sub mD_X)).mono ?_
  rintro e u1 ⟨he2, hD, k1⟩
  have hR := hP.rd (Y := X) k1 (fun y hy => .inl hy) ⟨hD.b.l, hD.t.lt⟩
  refine ⟨he2, k1.sub mD_X, (rgone_ok hR (by omega) hP.nd a N c f (by omega) ((hf.kp (k1.sub mD_X)).sub (mR_X (fun _ h => h)))).mono ?_⟩
  rintro e2 u2 ⟨he3, ⟨lv2, tv2, hR2⟩, k2⟩
  rw [← goneQ_lk] at hD
  refine ⟨he3, k2.sub (mR_X (fun _ h => h)), n, _, _, lv2, tv2, hP.both k1 hD (fun _ h => h) k2 hR2 (goneQ_nodup f hP.nd N) hP.no (goneQ_tt f hP.tt N), h2, Nat.le_trans (goneQ_len f N) h3⟩
theorem over_both (h : PlX X w0 B d bm r TI RH OV EL i w) (hi : i ≤ 1000) (he : 0 ≤ EL ∧ EL ≤ 9223372036854775807) (hov : ∀ u, Calls Try.prog 27 #[.int .i64 TI, .int .i64 RH] u fun e w' => e = .returned (.int .i64 OV) ∧ u = w')
    (a : Option Addr) (N c : Nat) (f : Nat → Int) (k : Int) (hN : N ≤ 1000) (hk : k ≤ 9223372036854775807) (hf : Lss (mm B X) w a N f) :
    Calls Try.prog 13 #[.pointer (some ⟨d, 0, none⟩), stV (.slice a N c), .int .i64 k] w (OverB X w0 B d bm r TI RH OV EL i (.slice a N c) k w) := by
  obtain ⟨n, NO, Q, lv, tv, hP, h2, h3⟩ := h
  have hno := hP.no
  refine (over_ok hP.dk a N c f k hN (hf.sub mD_X) he hno hk (fun x c hx => hP.tt x c hx)).mono ?_
  rintro e u1 ⟨v1, he2, ⟨a1, c1, rfl, hr1⟩, hD, k1⟩
  have hlen : (srt (pk (isOv OV EL (max NO k) (lk Q)) f N)).length ≤ 1000 := by rw [srt_len]; exact Nat.le_trans (pk_len _ f N) hN
  generalize hl : srt (pk (isOv OV EL (max NO k) (lk Q)) f N) = l at he2 hr1 hlen
  obtain ⟨Y, hY1, hY2, hY3⟩ : ∃ Y : List Nat, (∀ x ∈ X, x ∈ Y) ∧ (∀ y ∈ Y, y ∈ X ∨ (w.heap.size ≤ y ∧ y < u1.heap.size)) ∧ (0 < l.length → ∃ g, a1 = some ⟨g, 0, none⟩ ∧ g ∈ Y ∧ Blk u1 g (iV l)) := by
    by_cases hp : 0 < l.length
    · obtain ⟨g, e1, e2, e3⟩ := hr1 hp
      exact ⟨g :: X, fun x hx => List.mem_cons_of_mem _ hx, fun y hy => (List.mem_cons.1 hy).elim (fun e => .inr ⟨by omega, by rw [e]; exact e3.l⟩) .inl, fun _ => ⟨g, e1, by simp, e3⟩⟩
    · exact ⟨X, fun _ h => h, fun y hy => .inl hy, fun q => absurd q hp⟩
  have hR := hP.rd (Y := Y) k1 hY2 ⟨hD.b.l, hD.t.lt⟩
  refine ⟨a1, l.length, c1, he2, k1.sub mD_X, (rdover_ok hR (by omega) hP.nd a N c f k hN ((hf.kp (k1.sub mD_X)).sub (mR_X hY1)) he hno hk (fun x c hx => hP.tt x c hx) hov).mono ?_⟩
  rintro e2 u2 ⟨v2, he3, ⟨a2, c2, rfl, hr2⟩, ⟨lv2, tv2, hR2⟩, k2⟩
  rw [hl] at he3 hr2
  refine ⟨a2, c2, he3, k2.sub (mR_X hY1), ⟨n, _, _, lv2, tv2, hP.both k1 hD hY1 k2 hR2 hP.nd (by omega) hP.tt, h2, h3⟩, row_c (l := l) a1 a2 l.length c1 c2 rfl (by omega) (fun hp => ?_) (fun hp => ?_)⟩
  · obtain ⟨g, e1, e2, e3⟩ := hY3 hp
    exact ⟨g, e1, k2.blk e3 (.inl (.inr e2))⟩
  · obtain ⟨g, e1, _, e3⟩ := hr2 hp
    exact ⟨g, e1, e3⟩
end

namespace Gr
def leC (k : Int) : List Value := [.int .i64 k, .int .i64 0, .int .i64 0, .int .i64 0, .int .i64 0, .int .i64 0, .int .i64 0]
def rowL (l : List Int) : List Value := l.flatMap leC
theorem rowL_snoc (l : List Int) (k : Int) : rowL (l ++ [k]) = rowL l ++ leC k := by simp [rowL]
theorem rowL_len (l : List Int) : (rowL l).length = l.length * 7 := by
  induction l with
  | nil => rfl
  | cons x l ih => simp [rowL, leC] at ih ⊢; omega
theorem rowL_at (l : List Int) (i j : Nat) (hi : i < l.length) (hj : j < 7) : (rowL l)[i * 7 + j]? = (leC (l.getD i 0))[j]? := by
  induction l generalizing i with
  | nil => simp at hi
  | cons x l ih =>
    have e : rowL (x :: l) = leC x ++ rowL l := rfl
    have h7 : (leC x).length = 7 := rfl
    rw [e]
    cases i with
    | zero => rw [List.getElem?_append_left (by rw [h7]; omega), Nat.zero_mul, Nat.zero_add]; rfl
    | succ i =>
      rw [List.getElem?_append_right (by rw [h7]; omega), h7, show (i + 1) * 7 + j - 7 = i * 7 + j by omega, ih i (by simpa using hi)]
      simp
def OwnL (w : World) (B : Nat) (v : Value) (l : List Int) : Prop := w.ownsRow B 38 7 v l.length (rowL l)
theorem OwnL.bel {w w' : World} {B : Nat} {v : Value} {l : List Int} (h : OwnL w B v l) (k : Below w.heap.size w w') : OwnL w' B v l := by
  refine ⟨h.1, ?_⟩
  rcases h.2 with hh | ⟨g, cap, cur, h1, h2, h3, h4⟩
  · exact .inl hh
  · exact .inr ⟨g, cap, cur, h1, h2, (k.block g (Array.getElem?_eq_some_iff.1 h3).1).trans h3, h4⟩
theorem OwnL.set {w : World} {B : Nat} {v : Value} {l : List Int} (h : OwnL w B v l) {q o : Nat} (hq : v.ownBlock ≠ some q) (x : Value) : OwnL (w.setCell ⟨q, o, none⟩ x) B v l := by
  refine ⟨h.1, ?_⟩
  rcases h.2 with hh | ⟨g, cap, cur, h1, h2, h3, h4⟩
  · exact .inl hh
  · exact .inr ⟨g, cap, cur, h1, h2, (Below.heap_setCell _ ⟨q, o, none⟩ _ _ (fun e => hq (by rw [h1]; simp [Value.ownBlock]; exact e))).trans h3, h4⟩
theorem info_le : (Try.prog.info? 38).map (fun i => (i.zero, i.size, i.bytes)) = some (some (.agg #[.int .i64 0, .int .i64 0, .int .i64 0, .int .i64 0, .int .i64 0, .int .i64 0, .int .i64 0]), 7, 56) := by kernel_rfl
theorem wpList_app7 {w : World} {ops : Array Oper} {rest : List Oper} {o : Oper} {a : Act} {Q : Exit → Act → World → Prop} (hgd : o.guard = none) (s x : Operand)
    (ho : o.op = .call { callee := .builtin .append, args := #[s, x], argTypes := #[39, 39] }) (B : Nat) (v : Value) (l : List Int) (hs : a.eval s = v) (hown : OwnL w B v l) (hB : B ≤ w.heap.size)
    {q c : Nat} (hx : a.eval x = .slice (some ⟨q, 0, none⟩) 1 c) (k : Int) (hk : Blk w q (leC k)) (hl : l.length ≤ 1000000)
    (h : ∀ (a' : Option Addr) (n' c' : Nat) w', OwnL w' B (.slice a' n' c') (l ++ [k]) → n' = l.length + 1 → w.grownBy w' v.ownBlock → ((Value.slice a' n' c').ownBlock = v.ownBlock ∨ (Value.slice a' n' c').ownBlock = some w.heap.size) → wpList Try.prog ops Q rest (a.put o.dst (.slice a' n' c')) w') : wpList Try.prog ops Q (o :: rest) a w := by
  obtain ⟨i0, hi0, hz0, hz1, hz2⟩ := info_parts info_le
  refine wpList_append_own_at w hgd s x 39 ho B 38 i0 _ 7 56 Try.underlying39 hi0 hz0 hz1 hz2 rfl (by omega) v l.length (rowL l) hs hown ⟨q, 0, none⟩ 1 c (leC k) hx rfl (fun j u hj => ?_) (by intro u hu; simp [leC] at hu; rcases hu with rfl | rfl <;> rfl) (by unfold maxLen; omega) (by omega) hB (fun v' w' h1 h2 _ h4 => ?_)
  · have := hk.c j u hj
    rw [Addr.add_lit, Nat.zero_add]
    exact this
  · have h3 : OwnL w' B v' (l ++ [k]) := by
      unfold OwnL
      rw [List.length_append, rowL_snoc]
      exact h1
    rcases h3.2 with ⟨e, e2⟩ | ⟨g, cap, cur, e, _⟩
    · simp at e2
    · subst e
      have hn : (l ++ [k]).length = l.length + 1 := by simp
      exact h _ _ _ w' h3 hn h2 h4
theorem OwnL.lss {m : Nat → Prop} {w : World} {B n c : Nat} {a : Option Addr} {l : List Int} (h : OwnL w B (.slice a n c) l) (f : Nat → Int) (hf : ∀ i, i < l.length → l.getD i 0 = f i ∧ (Lit.int .i64 (f i)).wf = true) (hm : ∀ q, (Value.slice a n c).ownBlock = some q → m q) : Lss m w a l.length f := fun hp => by
  rcases h.2 with ⟨e, e2⟩ | ⟨g, cap, cur, e, h2, h3, h4⟩
  · omega
  · cases e
    refine ⟨g, 0, rfl, hm g rfl, (Array.getElem?_eq_some_iff.1 h3).1, fun i hi => ?_⟩
    have hc : ∀ j, j < 7 → w.cell? ⟨g, 0 + i * 7 + j, none⟩ = (leC (l.getD i 0))[j]? := fun j hj => by
      have := h.cellAt (i * 7 + j) (by omega)
      rw [Nat.zero_add, this, rowL_at l i j hi hj]
    have := (hf i hi).1
    refine ⟨⟨?_, fun j h1 h2 => ?_⟩, (hf i hi).2⟩
    · have := hc 0 (by omega); rw [Nat.add_zero] at this; rw [this, (hf i hi).1]; rfl
    · rw [hc j h2]
      have : j = 1 ∨ j = 2 ∨ j = 3 ∨ j = 4 ∨ j = 5 ∨ j = 6 := by omega
      rcases this with rfl | rfl | rfl | rfl | rfl | rfl <;> rfl
/-- New blocks are minded too. -/
theorem PlX.grow {X Y : List Nat} {w0 : World} {B d bm r : Nat} {TI RH OV EL : Int} {i : Nat} {w w' : World} (h : PlX X w0 B d bm r TI RH OV EL i w) (k : Below w.heap.size w w') (hY : ∀ y ∈ Y, y ∈ X ∨ (w.heap.size ≤ y ∧ y < w'.heap.size)) : PlX Y w0 B d bm r TI RH OV EL i w' := by
  obtain ⟨n, NO, Q, lv, tv, h1, h2, h3⟩ := h
  have hn : ∀ x, x < w.heap.size → ¬ mm B X x → ¬ mm B Y x := fun x hx hm h => hm (h.elim .inl (fun h => by
    rcases hY x h with e | e
    · exact .inr e
    · omega))
  have hw : ∀ b, mm B Y b → b < w'.heap.size := fun b hb => by
    have hs := k.size
    rcases hb with hb | hb
    · have := h1.dd.mw b (.inl hb); omega
    · rcases hY b hb with e | e
      · have := h1.dd.mw b (.inr e); omega
      · exact e.2
  exact ⟨n, NO, Q, lv, tv, ⟨h1.k.trans (Kp.of k), (h1.dd.bel k).re (hn d h1.dd.b.l h1.dd.md) (hn bm h1.dd.t.lt h1.dd.mb) hw, (h1.rr.bel k).re (hn r h1.rr.b.l h1.rr.mr) (fun q hq => hn q (h1.rr.l.lt q hq).2 (h1.rr.ml q hq)) (fun q hq => hn q (h1.rr.t.lt q hq).2 (h1.rr.mt q hq)) hw, h1.s1, h1.s2, h1.s3, h1.nd, h1.no, h1.tt⟩, h2, h3⟩
end Gr
end Go.Proofs.Ytifohibpcngakaa
