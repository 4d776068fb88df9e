/- The reference's desk: its state; New, find, Made. -/
import Derived.Test.YtifohibpcngakaaD7
namespace Go.Proofs.Ytifohibpcngakaa
open Go.ChangeShapes Go.WideShapes Go.ChangeAt Go.RowKit Go.Maps
set_option linter.unusedVariables false
set_option linter.unusedSimpArgs false
open BigFrame Bs Gr
attribute [local go_sem] Bs.max_fold Bs.min_fold

namespace Gr
theorem OwnI.slice {w : World} {B : Nat} {v : Value} {l : List Int} (h : OwnI w B v l) : ∃ (a : Option Addr) (n c : Nat), v = .slice a n c ∧ n = l.length := by
  rcases h.shape with ⟨rfl, rfl⟩ | ⟨g, cap, cur, rfl, _⟩
  · exact ⟨none, 0, 0, rfl, rfl⟩
  · exact ⟨_, _, _, rfl, rfl⟩
theorem wpList_app1 {w : World} {ops : Array Oper} {rest : List Oper} {o : Oper} {a : Act} {Q : Exit → Act → World → Prop} (hgd : o.guard = none) (s x : Operand)
    (ho : o.op = .call { callee := .builtin .append, args := #[s, x], argTypes := #[35, 35] }) (B : Nat) (v : Value) (l : List Int) (hs : a.eval s = v) (hown : OwnI w B v l) (hB : B ≤ w.heap.size)
    {q c : Nat} (hx : a.eval x = .slice (some ⟨q, 0, none⟩) 1 c) (k : Int) (hk : w.cell? ⟨q, 0, none⟩ = some (.int .i64 k)) (hl : l.length ≤ 1000000)
    (h : ∀ (a' : Option Addr) (n' c' : Nat) w', OwnI w' B (.slice a' n' c') (l ++ [k]) → w.grownBy w' v.ownBlock → ((Value.slice a' n' c').ownBlock = v.ownBlock ∨ (Value.slice a' n' c').ownBlock = some w.heap.size) → wpList Try.prog ops Q rest (a.put o.dst (.slice a' n' c')) w') : wpList Try.prog ops Q (o :: rest) a w := by
  obtain ⟨i0, hi0, hz0, hz1, hz2⟩ := info_parts info_int
  refine wpList_append_own_at w hgd s x 35 ho B 3 i0 _ 1 8 Try.underlying35 hi0 hz0 hz1 hz2 rfl (by omega) v l.length (iV l) hs hown ⟨q, 0, none⟩ 1 c [.int .i64 k] hx rfl (fun j u hj => ?_) (by intro u hu; simp at hu; subst hu; rfl) (by unfold maxLen; omega) (by omega) hB (fun v' w' h1 h2 _ h4 => ?_)
  · match j, hj with
    | 0, hj => simp at hj; subst hj; exact hk
  · have h3 : OwnI w' B v' (l ++ [k]) := by
      unfold OwnI iV at *
      rw [List.length_append, List.map_append]
      exact h1
    obtain ⟨a', n', c', rfl, _⟩ := h3.slice
    exact h a' n' c' w' h3 h2 h4
theorem OwnI.blk {w w' : World} {B : Nat} {v : Value} {l : List Int} (h : OwnI w B v l) (e : ∀ q, v.ownBlock = some q → w'.heap[q]? = w.heap[q]?) : OwnI w' B v l := by
  refine ⟨h.1, ?_⟩
  rcases h.2 with hh | ⟨g, cap, cur, h1, h2, h3, h4⟩
  · exact .inl hh
  · exact .inr ⟨g, cap, cur, h1, h2, (e g (by rw [h1]; rfl)).trans h3, h4⟩
theorem blk_grown2 {w w5 : World} {b : Nat} {l : List Value} {O : Obj} {row : Option Nat} (h : Blk w b l) (hg : (w.alloc O).grownBy w5 row) (hne : row ≠ some b) : Blk w5 b l := by
  have e : w5.heap[b]? = w.heap[b]? := (hg.block b (by simp; have := h.l; omega) (fun e => hne e.symm)).trans (Below.heap_alloc w O b h.l)
  exact ⟨fun i x hx => (World.cell?_of_block e).trans (h.c i x hx), fun o => (World.frozen?_of_block e).trans (h.f o), Nat.lt_of_lt_of_le h.l (Nat.le_trans (by simp) hg.size)⟩
/-- The reference's desk. -/
structure RD (m : Nat → Prop) (w : World) (r : Nat) (TI RH EL NO : Int) (lv tv : Value) (L T : List Int) : Prop where
  b : Blk w r [.int .i64 TI, .int .i64 RH, .int .i64 EL, .int .i64 NO, lv, tv]
  l : OwnI w 0 lv L
  t : OwnI w 0 tv T
  ap : ∀ q, lv.ownBlock = some q → tv.ownBlock = some q → False
  rl : lv.ownBlock ≠ some r
  rt : tv.ownBlock ≠ some r
  ml : ∀ q, lv.ownBlock = some q → ¬ m q
  mt : ∀ q, tv.ownBlock = some q → ¬ m q
  mr : ¬ m r
  mw : ∀ b, m b → b < w.heap.size
section
variable {m m2 : Nat → Prop} {w w' : World} {r : Nat} {TI RH EL NO : Int} {lv tv : Value} {L T : List Int}
theorem RD.bel (h : RD m w r TI RH EL NO lv tv L T) (k : Below w.heap.size w w') : RD m w' r TI RH EL NO lv tv L T :=
  ⟨h.b.bel k, h.l.bel k, h.t.bel k, h.ap, h.rl, h.rt, h.ml, h.mt, h.mr, mwB h.mw k.size⟩
theorem RD.kp (h : RD m w r TI RH EL NO lv tv L T) (k : Kp m2 w w') (h1 : m2 r) (h2 : ∀ q, lv.ownBlock = some q → m2 q) (h3 : ∀ q, tv.ownBlock = some q → m2 q) : RD m w' r TI RH EL NO lv tv L T :=
  ⟨k.blk h.b h1, h.l.blk (fun q hq => k.k q (h2 q hq) (h.l.lt q hq).2), h.t.blk (fun q hq => k.k q (h3 q hq) (h.t.lt q hq).2), h.ap, h.rl, h.rt, h.ml, h.mt, h.mr, mwB h.mw k.size⟩
theorem RD.re (h : RD m w r TI RH EL NO lv tv L T) (h1 : ¬ m2 r) (h2 : ∀ q, lv.ownBlock = some q → ¬ m2 q) (h3 : ∀ q, tv.ownBlock = some q → ¬ m2 q) (h4 : ∀ b, m2 b → b < w.heap.size) : RD m2 w r TI RH EL NO lv tv L T :=
  ⟨h.b, h.l, h.t, h.ap, h.rl, h.rt, h2, h3, h1, h4⟩
theorem own_set {B : Nat} {v : Value} {l : List Int} (h : OwnI w B v l) (hr : v.ownBlock ≠ some r) (o : Nat) (x : Value) : OwnI (w.setCell ⟨r, o, none⟩ x) B v l :=
  h.blk (fun q hq => Below.heap_setCell _ ⟨r, o, none⟩ _ _ (fun e => hr (by rw [hq, e])))
theorem RD.now (h : RD m w r TI RH EL NO lv tv L T) (x : Int) : RD m (w.setCell ⟨r, 3, none⟩ (.int .i64 x)) r TI RH EL x lv tv L T :=
  ⟨h.b.set (i := 3) (show 3 < 6 by omega) _, own_set h.l h.rl _ _, own_set h.t h.rt _ _, h.ap, h.rl, h.rt, h.ml, h.mt, h.mr, mwS h.mw⟩
/-- One row is put anew. -/
theorem RD.setL {lv2 : Value} {L2 : List Int} (h : RD m w r TI RH EL NO lv tv L T) (h1 : OwnI w 0 lv2 L2) (h3 : ∀ q, lv2.ownBlock = some q → tv.ownBlock = some q → False) (h4 : lv2.ownBlock ≠ some r) (h6 : ∀ q, lv2.ownBlock = some q → ¬ m q) :
    RD m (w.setCell ⟨r, 4, none⟩ lv2) r TI RH EL NO lv2 tv L2 T :=
  ⟨h.b.set (i := 4) (show 4 < 6 by omega) _, own_set h1 h4 _ _, own_set h.t h.rt _ _, h3, h4, h.rt, h6, h.mt, h.mr, mwS h.mw⟩
theorem RD.setT {tv2 : Value} {T2 : List Int} (h : RD m w r TI RH EL NO lv tv L T) (h1 : OwnI w 0 tv2 T2) (h3 : ∀ q, lv.ownBlock = some q → tv2.ownBlock = some q → False) (h4 : tv2.ownBlock ≠ some r) (h6 : ∀ q, tv2.ownBlock = some q → ¬ m q) :
    RD m (w.setCell ⟨r, 5, none⟩ tv2) r TI RH EL NO lv tv2 L T2 :=
  ⟨h.b.set (i := 5) (show 5 < 6 by omega) _, own_set h.l h.rl _ _, own_set h1 h4 _ _, h3, h.rl, h4, h.ml, h6, h.mr, mwS h.mw⟩
theorem own_grown {B : Nat} {v : Value} {l : List Int} {O : Obj} {row : Option Nat} {w5 : World} (h : OwnI w B v l) (hg : (w.alloc O).grownBy w5 row) (hne : ∀ q, v.ownBlock = some q → row ≠ some q) : OwnI w5 B v l :=
  h.blk (fun q hq => (hg.block q (by simp; have := (h.lt q hq).2; omega) (fun e => hne q hq e.symm)).trans (Below.heap_alloc w O q (h.lt q hq).2))
theorem kp_grown2 {O : Obj} {row : Option Nat} {w5 : World} (hg : (w.alloc O).grownBy w5 row) (hm : ∀ q, row = some q → ¬ m q) : Kp m w w5 :=
  ⟨((Below.refl 0 w).alloc (Nat.zero_le _) O).grown hg (Nat.zero_le _) (fun q _ => Nat.zero_le _), fun i hi hl => (hg.block i (by simp; omega) (fun e => hm i e.symm hi)).trans (Below.heap_alloc w O i hl)⟩
/-- Something is laid behind a row. -/
theorem RD.appL {O : Obj} {w5 : World} {v5 : Value} {L2 : List Int} (h : RD m w r TI RH EL NO lv tv L T) (hg : (w.alloc O).grownBy w5 lv.ownBlock) (ho : OwnI w5 0 v5 L2) (hor : v5.ownBlock = lv.ownBlock ∨ v5.ownBlock = some (w.alloc O).heap.size) :
    RD m (w5.setCell ⟨r, 4, none⟩ v5) r TI RH EL NO v5 tv L2 T ∧ Kp m w (w5.setCell ⟨r, 4, none⟩ v5) ∧ Blk w5 r [.int .i64 TI, .int .i64 RH, .int .i64 EL, .int .i64 NO, lv, tv] := by
  have hb := blk_grown2 h.b hg h.rl
  have hk := kp_grown2 (m := m) hg h.ml
  have hs : w.heap.size < (w.alloc O).heap.size := by simp
  have hnr : v5.ownBlock ≠ some r := by
    rcases hor with e | e
    · rw [e]; exact h.rl
    · rw [e]; intro e2; simp only [Option.some.injEq] at e2; have := h.b.l; omega
  have hother := own_grown h.t hg (fun q hq e => h.ap q e hq)
  have hap : ∀ q, v5.ownBlock = some q → tv.ownBlock = some q → False := fun q h1 h2 => by
    rcases hor with e | e
    · rw [e] at h1; exact h.ap q h1 h2
    · rw [e] at h1; simp only [Option.some.injEq] at h1; have := (h.t.lt q h2).2; omega
  have hm5 : ∀ q, v5.ownBlock = some q → ¬ m q := fun q h1 hq => by
    rcases hor with e | e
    · rw [e] at h1; exact h.ml q h1 hq
    · rw [e] at h1; simp only [Option.some.injEq] at h1; have := h.mw q hq; omega
  exact ⟨⟨hb.set (i := 4) (show 4 < 6 by omega) _, own_set ho hnr _ _, own_set hother h.rt _ _, hap, hnr, h.rt, hm5, h.mt, h.mr, mwS (mwB h.mw hk.size)⟩, hk.setCell (p := ⟨r, 4, none⟩) h.mr _, hb⟩
theorem RD.appT {O : Obj} {w5 : World} {v5 : Value} {L2 : List Int} (h : RD m w r TI RH EL NO lv tv L T) (hg : (w.alloc O).grownBy w5 tv.ownBlock) (ho : OwnI w5 0 v5 L2) (hor : v5.ownBlock = tv.ownBlock ∨ v5.ownBlock = some (w.alloc O).heap.size) :
    RD m (w5.setCell ⟨r, 5, none⟩ v5) r TI RH EL NO lv v5 L L2 ∧ Kp m w (w5.setCell ⟨r, 5, none⟩ v5) ∧ Blk w5 r [.int .i64 TI, .int .i64 RH, .int .i64 EL, .int .i64 NO, lv, tv] := by
  have hb := blk_grown2 h.b hg h.rt
  have hk := kp_grown2 (m := m) hg h.mt
  have hs : w.heap.size < (w.alloc O).heap.size := by simp
  have hnr : v5.ownBlock ≠ some r := by
    rcases hor with e | e
    · rw [e]; exact h.rt
    · rw [e]; intro e2; simp only [Option.some.injEq] at e2; have := h.b.l; omega
  have hother := own_grown h.l hg (fun q hq e => h.ap q hq e)
  have hap : ∀ q, v5.ownBlock = some q → lv.ownBlock = some q → False := fun q h1 h2 => by
    rcases hor with e | e
    · rw [e] at h1; exact h.ap q h2 h1
    · rw [e] at h1; simp only [Option.some.injEq] at h1; have := (h.l.lt q h2).2; omega
  have hm5 : ∀ q, v5.ownBlock = some q → ¬ m q := fun q h1 hq => by
    rcases hor with e | e
    · rw [e] at h1; exact h.mt q h1 hq
    · rw [e] at h1; simp only [Option.some.injEq] at h1; have := h.mw q hq; omega
  exact ⟨⟨hb.set (i := 5) (show 5 < 6 by omega) _, own_set hother h.rl _ _, own_set ho hnr _ _, fun q h1 h2 => hap q h2 h1, h.rl, hnr, h.ml, hm5, h.mr, mwS (mwB h.mw hk.size)⟩, hk.setCell (p := ⟨r, 5, none⟩) h.mr _, hb⟩
end
def lk (Q : List (Int × Int)) (k : Int) : Option Int := (Q.find? (fun p => p.1 == k)).map Prod.snd
theorem lk_nil : lk [] = fun _ => none := rfl
theorem lk_none {Q : List (Int × Int)} {k : Int} (h : ∀ p ∈ Q, p.1 ≠ k) : lk Q k = none := by
  unfold lk
  rw [List.find?_eq_none.2 (fun p hp => by simpa using h p hp)]; rfl
theorem lk_snoc {Q : List (Int × Int)} {k v : Int} (h : lk Q k = none) : lk (Q ++ [(k, v)]) = setT (lk Q) k v := by
  funext x
  unfold setT
  unfold lk at *
  rw [List.find?_append]
  by_cases e : x = k
  · subst e
    rw [if_pos rfl]
    have : Q.find? (fun p => p.1 == x) = none := by simpa using h
    rw [this]; simp
  · rw [if_neg e]
    cases hq : Q.find? (fun p => p.1 == x) with
    | some p => rfl
    | none =>
      have : ([(k, v)] : List (Int × Int)).find? (fun p => p.1 == x) = none := by
        simp only [List.find?_cons, List.find?_nil]
        have : (k == x) = false := by simpa using Ne.symm e
        rw [this]
      rw [this]; rfl
/-- A lease's place. -/
def FindP (L : List Int) (k : Int) (w : World) (e : Ending) (w' : World) : Prop :=
  w' = w ∧ ((∃ i : Nat, e = .returned (.int .i64 (i : Nat)) ∧ i < L.length ∧ L.getD i 0 = k ∧ ∀ j, j < i → L.getD j 0 ≠ k) ∨ (e = .returned (.int .i64 (-1)) ∧ ∀ j, j < L.length → L.getD j 0 ≠ k))
def RNew (m : Nat → Prop) (ti rho now : Int) (w : World) (e : Ending) (w' : World) : Prop :=
  ∃ r : Nat, e = .returned (.tuple #[.pointer (some ⟨r, 0, none⟩), .int .i64 0]) ∧ RD m w' r ti rho now now (.slice none 0 0) (.slice none 0 0) [] [] ∧ w.heap.size ≤ r ∧ Below w.heap.size w w'
def RdP (m : Nat → Prop) (r : Nat) (TI RH EL NO : Int) (Q : List (Int × Int)) (w : World) (k : Int) (e : Ending) (w' : World) : Prop :=
  e = .returned (.int .i64 k) ∧ (∃ lv tv, RD m w' r TI RH EL NO lv tv (Q.map Prod.fst) (Q.map Prod.snd)) ∧ Kp m w w'
def madeQ (Q : List (Int × Int)) (k v : Int) : List (Int × Int) := if (lk Q k).isSome then Q else Q ++ [(k, v)]
theorem iV_at {L : List Int} {i : Nat} (h : i < L.length) : (iV L)[i]? = some (.int .i64 (L.getD i 0)) := by
  unfold iV
  rw [List.getElem?_map, List.getElem?_eq_getElem h]
  simp [List.getD, List.getElem?_eq_getElem h]
theorem OwnI.at {w : World} {B : Nat} {v : Value} {L : List Int} (h : OwnI w B v L) {g : Nat} (hg : v.ownBlock = some g) {i : Nat} (hi : i < L.length) : w.cell? ⟨g, i, none⟩ = some (.int .i64 (L.getD i 0)) := by
  have := h.cells hg i _ (iV_at hi)
  rwa [Addr.add_lit, Nat.zero_add] at this
end Gr

set_option maxRecDepth 100000 in
set_option maxHeartbeats 4000000 in
theorem rdnew_ok (m : Nat → Prop) (w : World) (ti rho now : Int) (hm : ∀ b, m b → b < w.heap.size) (h1 : 1 ≤ ti ∧ ti ≤ 1099511627776) (h2 : 0 ≤ rho ∧ rho ≤ 200) (h3 : 0 ≤ now) :
    Calls Try.prog 10 #[.int .i64 ti, .int .i64 rho, .int .i64 now] w (RNew m ti rho now w) := by
  obtain ⟨t1, t2⟩ := h1
  obtain ⟨r1, r2⟩ := h2
  have hb := Lib.hid (blk_new w [.int .i64 ti, .int .i64 rho, .int .i64 now, .int .i64 now, .slice none 0 0, .slice none 0 0] 63)
  have hB := Lib.hid ((Below.refl w.heap.size w).alloc (Nat.le_refl _) (.cells #[.int .i64 ti, .int .i64 rho, .int .i64 now, .int .i64 now, .slice none 0 0, .slice none 0 0] 63))
  replace hm := Lib.hid hm
  go_enter Try.func10, Try.ntmps10
  go_wp2_with fail
  go_ret2
  exact ⟨w.heap.size, rfl, ⟨hb.out, ⟨rfl, .inl ⟨rfl, rfl⟩⟩, ⟨rfl, .inl ⟨rfl, rfl⟩⟩, fun q h => (nomatch h), fun h => (nomatch h), fun h => (nomatch h), fun q h => (nomatch h), fun q h => (nomatch h), fun h => Nat.lt_irrefl _ (hm.out _ h), mwB hm.out hB.out.size⟩, Nat.le_refl _, hB.out⟩

set_option maxRecDepth 100000 in
set_option maxHeartbeats 4000000 in
theorem rdnew_no (w : World) (ti rho now : Int) (h : ti < 1 ∨ 1099511627776 < ti ∨ rho < 0 ∨ 200 < rho ∨ now < 0) :
    Calls Try.prog 10 #[.int .i64 ti, .int .i64 rho, .int .i64 now] w fun e w' => e = .returned (.tuple #[.pointer none, .int .i64 2]) ∧ w' = w := by
  by_cases a1 : ti < 1
  · clear h
    go_enter Try.func10, Try.ntmps10
    go_wp2_with fail
    go_ret2
    exact ⟨rfl, rfl⟩
  by_cases a2 : 1099511627776 < ti
  · clear h
    go_enter Try.func10, Try.ntmps10
    go_wp2_with fail
    go_ret2
    exact ⟨rfl, rfl⟩
  by_cases a3 : rho < 0
  · clear h
    go_enter Try.func10, Try.ntmps10
    go_wp2_with fail
    go_ret2
    exact ⟨rfl, rfl⟩
  by_cases a4 : 200 < rho
  · clear h
    go_enter Try.func10, Try.ntmps10
    go_wp2_with fail
    go_ret2
    exact ⟨rfl, rfl⟩
  · have a5 : now < 0 := by omega
    clear h
    go_enter Try.func10, Try.ntmps10
    go_wp2_with fail
    go_ret2
    exact ⟨rfl, rfl⟩

set_option maxRecDepth 100000 in
set_option maxHeartbeats 4000000 in
theorem rfind_c {m : Nat → Prop} {w : World} {r : Nat} {TI RH EL NO : Int} {lv tv : Value} {L T : List Int} (h : RD m w r TI RH EL NO lv tv L T) (k : Int) (hlen : L.length ≤ 1000000) :
    Calls Try.prog 26 #[.pointer (some ⟨r, 0, none⟩), .int .i64 k] w (FindP L k w) := by
  have c4 := h.b.c 4 _ rfl
  have hl := h.l
  have hli : (L.length : Int) ≤ 1000000 := by omega
  clear h
  have hat := fun g (hg : lv.ownBlock = some g) i (hi : i < L.length) => hl.at hg hi
  rcases hl.shape with ⟨rfl, hl0⟩ | ⟨g, cap, cur, rfl, _, _, hc1, hc2, _⟩
  · obtain rfl := hl0
    clear hl hat
    go_enter Try.func26, Try.ntmps26
    go_wp2_with fail
    go_loop [5] (fun s5 => s5 = .int .i64 0) (fun _ => 0)
    case atStart => rfl
    case round =>
      obtain rfl := hrel
      go_wp2_with fail
      go_ret
      exact ⟨rfl, .inr ⟨rfl, fun j hj => absurd hj (Nat.not_lt_zero _)⟩⟩
  · have hat2 := Lib.hid (hat g rfl)
    have hci : (L.length : Int) ≤ (cap : Int) := by omega
    clear hl hat hc2
    go_enter Try.func26, Try.ntmps26
    go_wp2_with fail
    go_loop [5] (fun s5 => ∃ i : Nat, s5 = .int .i64 (i : Nat) ∧ i ≤ L.length ∧ RowKit.Hid (∀ j, j < i → L.getD j 0 ≠ k)) (fun s5 => L.length - (intOf s5).toNat)
    case atStart => exact ⟨0, rfl, Nat.zero_le _, Lib.hid (fun j hj => absurd hj (Nat.not_lt_zero _))⟩
    case round =>
      obtain ⟨i, rfl, hi, hno⟩ := hrel
      have ii : (i : Int) ≤ (L.length : Int) := by omega
      by_cases hlt : i < L.length
      · have ii1 : (i : Int) < (L.length : Int) := by omega
        have x0 := hat2.out i hlt
        obtain ⟨y, hy⟩ : ∃ y, L.getD i 0 = y := ⟨_, rfl⟩
        rw [hy] at x0
        replace hy := Lib.hid hy
        by_cases hyk : y = k
        · subst hyk
          go_wp2_with fail
          go_ret
          exact ⟨rfl, .inl ⟨i, rfl, hlt, hy.out, hno.out⟩⟩
        · have hyk2 : (y == k) = false := by simpa using hyk
          replace hyk := Lib.hid hyk
          go_wp2_with fail
          go_round
          case rel => exact ⟨i + 1, by go_num, hlt, Lib.hid (fun j hj => by
            by_cases e : j = i
            · subst e; rw [hy.out]; exact hyk.out
            · exact hno.out j (by omega))⟩
          case measure => simp [intOf]; omega
      · obtain rfl : i = L.length := by omega
        go_wp2_with fail
        go_ret
        exact ⟨rfl, .inr ⟨rfl, hno.out⟩⟩

set_option maxRecDepth 100000 in
set_option maxHeartbeats 4000000 in
theorem rmade_no {m : Nat → Prop} {w : World} {r : Nat} {TI RH EL NO : Int} {lv tv : Value} {Q : List (Int × Int)} (h : RD m w r TI RH EL NO lv tv (Q.map Prod.fst) (Q.map Prod.snd)) (k v : Int) (hb : k < 1 ∨ v < EL) :
    Calls Try.prog 14 #[.pointer (some ⟨r, 0, none⟩), .int .i64 k, .int .i64 v] w fun e w' => e = .returned (.int .i64 2) ∧ w' = w := by
  have c2 := h.b.c 2 _ rfl
  clear h
  by_cases h1 : k < 1
  · clear hb
    go_enter Try.func14, Try.ntmps14
    go_wp2_with fail
    go_ret
    exact ⟨rfl, rfl⟩
  · have h2 : v < EL := by omega
    clear hb
    go_enter Try.func14, Try.ntmps14
    go_wp2_with fail
    go_ret
    exact ⟨rfl, rfl⟩

namespace Gr
theorem lk_some {Q : List (Int × Int)} {k : Int} {i : Nat} (hi : i < Q.length) (he : (Q.map Prod.fst).getD i 0 = k) : (lk Q k).isSome = true := by
  unfold lk
  rw [Option.isSome_map]
  refine List.find?_isSome.2 ⟨Q[i], List.getElem_mem hi, ?_⟩
  simp [List.getD, hi] at he
  simp [he]
theorem lk_none' {Q : List (Int × Int)} {k : Int} (h : ∀ j, j < (Q.map Prod.fst).length → (Q.map Prod.fst).getD j 0 ≠ k) : lk Q k = none := by
  refine lk_none (fun p hp => ?_)
  obtain ⟨i, hi, rfl⟩ := List.mem_iff_getElem.1 hp
  have := h i (by simpa using hi)
  simpa [List.getD, hi] using this
end Gr

set_option maxRecDepth 100000 in
set_option maxHeartbeats 4000000 in
theorem rmade_ok {m : Nat → Prop} {w : World} {r : Nat} {TI RH EL NO : Int} {lv tv : Value} {Q : List (Int × Int)} (h : RD m w r TI RH EL NO lv tv (Q.map Prod.fst) (Q.map Prod.snd)) (k v : Int) (h1 : 1 ≤ k) (h2 : EL ≤ v) (hQ : Q.length ≤ 1000) :
    Calls Try.prog 14 #[.pointer (some ⟨r, 0, none⟩), .int .i64 k, .int .i64 v] w (RdP m r TI RH EL (max NO v) (madeQ Q k v) w 0) := by
  have c2 := h.b.c 2 _ rfl
  have c3 := h.b.c 3 _ rfl
  have f3 := h.b.f 3
  have h3 := h.now (max NO v)
  have kk := (Kp.refl m w).setCell (p := ⟨r, 3, none⟩) h.mr (.int .i64 (max NO v))
  have hfd := rfind_c h3 k (by simp; omega)
  replace h3 := Lib.hid h3
  replace kk := Lib.hid kk
  replace hfd := Lib.hid hfd
  replace hQ := Lib.hid hQ
  clear h
  go_enter Try.func14, Try.ntmps14
  go_upto_region 4 with fail
  clear c2 c3 f3
  generalize w.setCell ⟨r, 3, none⟩ (.int .i64 (max NO v)) = u at h3 kk hfd ⊢
  go_wp2_with fail
  refine hfd.out.mono ?_
  rintro e w' ⟨rfl, ⟨i, rfl, hi, he, _⟩ | ⟨rfl, hno⟩⟩
  · have hq : madeQ Q k v = Q := if_pos (lk_some (by simpa using hi) he)
    have hi0 : (0 : Int) ≤ (i : Int) := by omega
    replace he := Lib.hid he
    replace hq := Lib.hid hq
    clear hfd
    go_wp2_with fail
    go_ret
    exact ⟨rfl, ⟨_, _, hq.out.symm ▸ h3.out⟩, kk.out⟩
  · have hl0 := lk_none' hno
    have hq : madeQ Q k v = Q ++ [(k, v)] := if_neg (by rw [hl0]; decide)
    replace hl0 := Lib.hid hl0
    replace hq := Lib.hid hq
    have hlen : (Q.map Prod.fst).length ≤ 1000000 := by have := hQ.out; simpa using (by omega : Q.length ≤ 1000000)
    have hlen2 : (Q.map Prod.snd).length ≤ 1000000 := by have := hQ.out; simpa using (by omega : Q.length ≤ 1000000)
    replace hlen := Lib.hid hlen
    replace hlen2 := Lib.hid hlen2
    have c4 := h3.out.b.c 4 _ rfl
    clear hfd hno
    have hL := Lib.hid (h3.out.l.bel ((Below.refl _ _).alloc (Nat.le_refl _) (.cells #[.int .i64 k] 3)))
    obtain ⟨a1, n3, n1, rfl, -⟩ := h3.out.l.slice
    obtain ⟨a2, n4, n2, rfl, -⟩ := h3.out.t.slice
    go_upto_region 6 with (at_builtin; refine wpList_app1 rfl _ _ rfl 0 (.slice a1 n3 n1) (Q.map Prod.fst) (by rfl) hL.out (Nat.zero_le _) (by rfl) k ((blk_new w' [.int .i64 k] 3).c 0 _ rfl) hlen.out ?_; intro a5 n5 p5 w5 hown5 hgrow5 hor5; obtain ⟨h5, k5, b5⟩ := h3.out.appL hgrow5 hown5 hor5; have c4 := b5.c 4 _ rfl; have f4 := b5.f 4; replace h5 := Lib.hid h5; replace k5 := Lib.hid k5; clear b5 hown5 hgrow5 hor5)
    generalize w5.setCell ⟨r, 4, none⟩ (.slice a5 n5 p5) = u2 at h5 k5 ⊢
    clear hL h3
    have c5 := h5.out.b.c 5 _ rfl
    have hT := Lib.hid (h5.out.t.bel ((Below.refl _ _).alloc (Nat.le_refl _) (.cells #[.int .i64 v] 3)))
    go_wp2_with (at_builtin; refine wpList_app1 rfl _ _ rfl 0 (.slice a2 n4 n2) (Q.map Prod.snd) (by rfl) hT.out (Nat.zero_le _) (by rfl) v ((blk_new u2 [.int .i64 v] 3).c 0 _ rfl) hlen2.out ?_; intro a6 n6 p6 w6 hown6 hgrow6 hor6; obtain ⟨h6, k6, b6⟩ := h5.out.appT hgrow6 hown6 hor6; have c5 := b6.c 5 _ rfl; have f5 := b6.f 5; replace h6 := Lib.hid h6; replace k6 := Lib.hid k6; clear b6 hown6 hgrow6 hor6)
    go_ret
    have h7 := h6.out
    refine ⟨rfl, ⟨.slice a5 n5 p5, .slice a6 n6 p6, ?_⟩, (kk.out.trans k5.out).trans k6.out⟩
    rw [hq.out, List.map_append, List.map_append]
    exact h7
end Go.Proofs.Ytifohibpcngakaa
