/- Rows by what they say: Check, last, Last. -/
import Derived.Test.YtbiodlhiilmgkaaCt4
import Derived.Test.YtbiodlhiilmgkaaRwNewer
namespace Go.Proofs.Ytbiodlhiilmgkaa
open Go.ChangeShapes Go.WideShapes Go.ChangeAt Go.RowKit
set_option linter.unusedVariables false
set_option linter.unusedSimpArgs false
open BigFrame Bs Rw Ct

namespace Ct
def I64 (x : Int) : Prop := -9223372036854775808 ≤ x ∧ x ≤ 9223372036854775807
def Wfl (l : List En) : Prop := ∀ y ∈ l, I64 y.term ∧ I64 y.stamp
def enr (y : En) : Ent := ⟨y.term, y.kind, y.stamp, y.set, none, y.d.length, 0⟩
def rr (b t : Int) (l : List En) : Rw.R := ⟨b, t, none, l.length, 0, fun i => enr (l.getD i en0)⟩
/-- May the rows be? -/
def chk (b t : Int) (l : List En) : Bool := Rw.chkB (rr b t l)
/-- The term ahead of entry k. -/
def tl (t : Int) (l : List En) (k : Nat) : Int := if k = 0 then t else (l.getD (k - 1) en0).term
theorem chkB_congr {r r' : Rw.R} (h1 : r.base = r'.base) (h2 : r.term = r'.term) (h3 : r.n = r'.n) (h4 : ∀ i, i < r.n → (r.e i).term = (r'.e i).term ∧ (r.e i).kind = (r'.e i).kind ∧ (r.e i).stamp = (r'.e i).stamp ∧ (r.e i).set = (r'.e i).set ∧ (r.e i).dl = (r'.e i).dl) : Rw.chkB r = Rw.chkB r' := by
  have ht : ∀ i, i ≤ r.n → Rw.tb r i = Rw.tb r' i := fun i hi => by
    unfold Rw.tb
    by_cases h0 : i = 0
    · rw [if_pos h0, if_pos h0, h2]
    · rw [if_neg h0, if_neg h0, (h4 (i - 1) (by omega)).1]
  have hm : ∀ i, i < r.n → Rw.mayB (r.e i) (Rw.tb r i) = Rw.mayB (r'.e i) (Rw.tb r' i) := fun i hi => by
    obtain ⟨e1, e2, e3, e4, e5⟩ := h4 i hi
    unfold Rw.mayB
    rw [e1, e2, e3, e4, e5, ht i (by omega)]
  unfold Rw.chkB
  rw [decide_eq_decide]
  have hh : Rw.headP r ↔ Rw.headP r' := by unfold Rw.headP; rw [h1, h2, h3]
  rw [hh, ← h3]
  exact and_congr_right fun _ => forall_congr' fun i => ⟨fun q hi => by rw [← hm i hi]; exact q hi, fun q hi => by rw [hm i hi]; exact q hi⟩
theorem LAt.toR {w : World} {a : Option Addr} {n cap : Nat} {l : List En} (h : LAt w a n cap l) (hw : Wfl l) {b t : Int} (hb : I64 b) (ht : I64 t) :
    ∃ e, RAt w ⟨b, t, a, n, cap, e⟩ ∧ RWf ⟨b, t, a, n, cap, e⟩ ∧ chkE ⟨b, t, a, n, cap, e⟩ = (if chk b t l then 0 else 90) ∧ Rw.chkB ⟨b, t, a, n, cap, e⟩ = chk b t l ∧ ∀ k, k ≤ n → Rw.tb ⟨b, t, a, n, cap, e⟩ k = tl t l k := by
  have hl := h.len
  obtain ⟨es, h1, h2⟩ := h
  have hne := h1.len
  have hle := h1.le
  have hmx := h1.mx
  have key : ∀ i, i < n → ∃ x y, es[i]? = some x ∧ l[i]? = some y ∧ es.getD i ⟨0, 0, 0, 0, none, 0, 0⟩ = x ∧ l.getD i en0 = y ∧ Has w x y := fun i hi => by
    have i1 : i < es.length := by omega
    have i2 : i < l.length := by omega
    refine ⟨es[i], l[i], List.getElem?_eq_getElem i1, List.getElem?_eq_getElem i2, by simp [List.getD, i1], by simp [List.getD, i2], h2.2 i _ _ (List.getElem?_eq_getElem i1) (List.getElem?_eq_getElem i2)⟩
  have ckb : Rw.chkB ⟨b, t, a, n, cap, fun i => es.getD i ⟨0, 0, 0, 0, none, 0, 0⟩⟩ = chk b t l := by
    refine chkB_congr rfl rfl hl (fun i hi => ?_)
    obtain ⟨x, y, _, _, e1, e2, hh⟩ := key i hi
    show (es.getD i _).term = (enr (l.getD i en0)).term ∧ _
    simp only [rr]
    rw [e1, e2]
    exact ⟨hh.t, hh.k, hh.s, hh.u, hh.d.len⟩
  refine ⟨fun i => es.getD i ⟨0, 0, 0, 0, none, 0, 0⟩, ?_, ?_, ?_, ckb, ?_⟩
  · intro hp
    obtain ⟨g, o, ha, hg, hc⟩ := h1.row hp
    refine ⟨g, o, ha, hg, fun i hi => ?_⟩
    obtain ⟨x, y, hx, _, e1, _⟩ := key i hi
    simp only
    rw [e1]
    exact hc i x hx
  · refine ⟨hb.1, hb.2, ht.1, ht.2, by simp only; omega, fun i hi => ?_⟩
    obtain ⟨x, y, hx, hy, e1, _, hh⟩ := key i hi
    simp only
    rw [e1]
    obtain ⟨⟨q1, q2⟩, q3, q4⟩ := hw y (List.mem_of_getElem? hy)
    refine ⟨by rw [hh.t]; exact q1, by rw [hh.t]; exact q2, by rw [hh.s]; exact q3, by rw [hh.s]; exact q4, ?_⟩
    have := hh.d.le
    have := hh.d.mx
    omega
  · show (if Rw.chkB _ then (0 : Int) else 90) = _
    rw [ckb]
  · intro k hk
    unfold Rw.tb tl
    by_cases h0 : k = 0
    · rw [if_pos h0, if_pos h0]
    · rw [if_neg h0, if_neg h0]
      obtain ⟨x, y, _, _, e1, e2, hh⟩ := key (k - 1) (by omega)
      simp only
      rw [e1, e2]
      exact hh.t
theorem chk_iff {b t : Int} {l : List En} : chk b t l = true ↔ (0 ≤ b ∧ l.length ≤ 4096 ∧ b ≤ 1099511627776 - l.length ∧ 0 ≤ t ∧ ((b = 0 ∧ t = 0) ∨ (b ≠ 0 ∧ t ≠ 0))) ∧ ∀ i, i < l.length → Rw.mayB (enr (l.getD i en0)) (tl t l i) = true := by
  unfold chk Rw.chkB
  rw [decide_eq_true_eq]
  exact Iff.rfl
theorem chk_sml {b t : Int} {l : List En} (h : chk b t l = true) : Sml l := by
  obtain ⟨h1, h2⟩ := chk_iff.1 h
  refine ⟨by omega, fun y hy => ?_⟩
  obtain ⟨i, hi, rfl⟩ := List.getElem_of_mem hy
  have h3 := h2 i hi
  unfold Rw.mayB at h3
  have h4 := (of_decide_eq_true h3).2.2.2.2.2.2.2
  simp [enr, List.getD, hi] at h4
  omega
theorem chk_wfl {b t : Int} {l : List En} (h : chk b t l = true) : ∀ y ∈ l, 1 ≤ y.term ∧ 0 ≤ y.stamp ∧ t ≤ y.term := by
  obtain ⟨h1, h2⟩ := chk_iff.1 h
  have mono : ∀ i, i ≤ l.length → t ≤ tl t l i := by
    intro i
    induction i with
    | zero => intro _; exact Int.le_refl _
    | succ i ih =>
      intro hi
      have h3 := h2 i (by omega)
      unfold Rw.mayB at h3
      have h4 := (of_decide_eq_true h3).2.1
      have h5 := ih (by omega)
      show t ≤ tl t l (i + 1)
      have e : tl t l (i + 1) = (l.getD i en0).term := by unfold tl; rw [if_neg (by omega)]; rfl
      rw [e]
      simp only [enr] at h4
      omega
  intro y hy
  obtain ⟨i, hi, rfl⟩ := List.getElem_of_mem hy
  have h3 := h2 i hi
  have hm := mono i (by omega)
  unfold Rw.mayB at h3
  have h4 := of_decide_eq_true h3
  have e : l.getD i en0 = l[i] := by simp [List.getD, hi]
  rw [e] at h4
  simp only [enr] at h4
  exact ⟨h4.1, h4.2.2.1, by omega⟩
def AnyLast (w : World) (e : Ending) (w' : World) : Prop := ∃ x y, e = .returned (.tuple #[.int .i64 x, .int .i64 y]) ∧ Below w.heap.size w w'
end Ct

theorem check_l (b t : Int) (a : Option Addr) (n c : Nat) (l : List En) (w : World) (h : LAt w a n c l) (hw : Wfl l) (hb : I64 b) (ht : I64 t) :
    Calls Try.prog 24 #[.agg #[.int .i64 b, .int .i64 t, .slice a n c]] w fun e w' => e = .returned (.int .i64 (if chk b t l then 0 else 90)) ∧ Below w.heap.size w w' := by
  obtain ⟨e, h1, h2, h3, _⟩ := h.toR hw hb ht
  rw [← h3]
  exact check_c ⟨b, t, a, n, c, e⟩ w h2 h1
theorem rcheck_l (b t : Int) (a : Option Addr) (n c : Nat) (l : List En) (w : World) (h : LAt w a n c l) (hw : Wfl l) (hb : I64 b) (ht : I64 t) :
    Calls Try.prog 13 #[.agg #[.int .i64 b, .int .i64 t, .slice a n c]] w fun e w' => e = .returned (.int .i64 (if chk b t l then 0 else 90)) ∧ Below w.heap.size w w' := by
  obtain ⟨e, h1, h2, h3, _⟩ := h.toR hw hb ht
  rw [← h3]
  exact rcheck_c ⟨b, t, a, n, c, e⟩ w h2 h1
/-- The reference's 'Last' of rows that may be. -/
theorem rlast_l (b t : Int) (a : Option Addr) (n c : Nat) (l : List En) (w : World) (h : LAt w a n c l) (hw : Wfl l) (hb : I64 b) (ht : I64 t) (hc : chk b t l = true) :
    Calls Try.prog 14 #[.agg #[.int .i64 b, .int .i64 t, .slice a n c]] w fun e w' => e = .returned (.tuple #[.int .i64 (b + l.length), .int .i64 (tl t l l.length)]) ∧ Below w.heap.size w w' := by
  have hl := h.len
  obtain ⟨e, h1, h2, h3, h4, h5⟩ := h.toR hw hb ht
  have q := rlast_c b t a n c e w h2 h1
  have e1 : lstI ⟨b, t, a, n, c, e⟩ = b + l.length := by unfold lstI; rw [h4, hc, if_pos rfl]; show b + (n : Int) = _; rw [hl]
  have e2 : lstT ⟨b, t, a, n, c, e⟩ = tl t l l.length := by unfold lstT; rw [h4, hc, if_pos rfl]; show Rw.tb _ n = _; rw [h5 n (Nat.le_refl _), hl]
  rw [e1, e2] at q
  exact q
/-- The program's 'last' of rows that may be. -/
theorem last_l (b t : Int) (a : Option Addr) (n c : Nat) (l : List En) (B : Nat) (w : World) (h : LAt w a n c l) (hw : Wfl l) (hb : I64 b) (ht : I64 t) (hc : chk b t l = true)
    (x0 : w.cell? ⟨B, 0, none⟩ = some (.int .i64 b)) (x1 : w.cell? ⟨B, 1, none⟩ = some (.int .i64 t)) (x2 : w.cell? ⟨B, 2, none⟩ = some (.slice a n c)) :
    Calls Try.prog 29 #[.pointer (some ⟨B, 0, none⟩)] w fun e w' => e = .returned (.tuple #[.int .i64 (b + l.length), .int .i64 (tl t l l.length)]) ∧ Below w.heap.size w w' := by
  have hl := h.len
  obtain ⟨e, h1, h2, h3, h4, h5⟩ := h.toR hw hb ht
  obtain ⟨q1, _⟩ := chk_iff.1 hc
  have q := last_c b t a n c e B w q1.1 (by omega) (by omega) h1 x0 x1 x2
  have e1 : Rw.lastI ⟨b, t, a, n, c, e⟩ = b + l.length := by show b + (n : Int) = _; rw [hl]
  have e2 : Rw.lastT ⟨b, t, a, n, c, e⟩ = tl t l l.length := by show Rw.tb _ n = _; rw [h5 n (Nat.le_refl _), hl]
  rw [e1, e2] at q
  exact q
set_option maxRecDepth 100000 in
set_option maxHeartbeats 1000000 in
/-- The program's 'last' of any rows. -/
theorem last_any (b t : Int) (a : Option Addr) (n c : Nat) (l : List En) (B : Nat) (w : World) (h : LAt w a n c l)
    (x0 : w.cell? ⟨B, 0, none⟩ = some (.int .i64 b)) (x1 : w.cell? ⟨B, 1, none⟩ = some (.int .i64 t)) (x2 : w.cell? ⟨B, 2, none⟩ = some (.slice a n c)) :
    Calls Try.prog 29 #[.pointer (some ⟨B, 0, none⟩)] w (AnyLast w) := by
  have hn : (n : Int) ≤ 9223372036854775807 := by have := h.le; have := h.mx; omega
  by_cases h0 : 0 < n
  · obtain ⟨y, hy⟩ : ∃ y, l[n - 1]? = some y := ⟨_, List.getElem?_eq_getElem (show n - 1 < l.length by have := h.len; omega)⟩
    obtain ⟨g, o, x, rfl, hg, hx, hhas⟩ := h.ent hy
    have hx0 := hx.1
    clear hx hhas hy h
    have h' : (0 : Int) < n := by omega
    have e1 : ((n : Int) - 1).toNat = n - 1 := by omega
    go_enter Try.func29, Try.ntmps29
    go_wp2
    go_quiet (fail)
    go_wp2
    go_ret2
    exact ⟨_, _, rfl, drewN_below _ _⟩
  · obtain rfl : n = 0 := by omega
    clear h
    go_enter Try.func29, Try.ntmps29
    go_wp2
    go_quiet (fail)
    go_wp2
    go_ret2
    exact ⟨_, _, rfl, drewN_below _ _⟩
end Go.Proofs.Ytbiodlhiilmgkaa
