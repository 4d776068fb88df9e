/- The shaper: New. -/
import Derived.Test.YtkefkophlhcbiaaS6
namespace Go.Proofs.Ytkefkophlhcbiaa
open Go.ChangeShapes Go.WideShapes Go.ChangeAt Go.RowKit
set_option linter.unusedVariables false
set_option linter.unusedSimpArgs false
open BigFrame Pk Sh Fa Fq
open Vr hiding cellB
open By (Byt RowG blkO)
open Fp (Pt PQ PqP)
open Bs (cellB IntRows)

namespace Sh
theorem own_kf {w w' : World} {B : Nat} {e : TypeId} {size n : Nat} {v : Value} {vs : List Value} {l : List Nat} (h : w.ownsRow B e size v n vs) (k : By.KF l w w') (hl : ∀ q, v.ownBlock = some q → q ∉ l) : w'.ownsRow B e size v n vs := by
  refine ⟨h.1, ?_⟩
  rcases h.2 with hh | ⟨g, cap, cur, h1, h2, h3, h4⟩
  · exact .inl hh
  · exact .inr ⟨g, cap, cur, h1, h2, (k.k g (Array.getElem?_eq_some_iff.1 h3).1 (hl g (by rw [h1]; rfl))).trans h3, h4⟩
def flX (X : Nat → Nat → Int) (N : Nat) : List Value := (List.range N).flatMap fun i => [.int .i64 (X i 0), .int .i64 (X i 1), .int .i64 (X i 2)]
theorem flX_succ (X : Nat → Nat → Int) (n : Nat) : flX X (n + 1) = flX X n ++ [.int .i64 (X n 0), .int .i64 (X n 1), .int .i64 (X n 2)] := by simp [flX, List.range_succ]
theorem flX_len (X : Nat → Nat → Int) : ∀ n, (flX X n).length = n * 3
  | 0 => rfl
  | n + 1 => by rw [flX_succ, List.length_append, flX_len X n]; simp; omega
theorem flX_at (X : Nat → Nat → Int) : ∀ (n i j : Nat), i < n → j < 3 → (flX X n)[i * 3 + j]? = some (.int .i64 (X i j))
  | n + 1, i, j, h, hj => by
    rw [flX_succ]
    by_cases e : i = n
    · subst e
      rw [List.getElem?_append_right (by rw [flX_len]; omega), flX_len, show i * 3 + j - i * 3 = j by omega]
      have : j = 0 ∨ j = 1 ∨ j = 2 := by omega
      rcases this with rfl | rfl | rfl <;> rfl
    · rw [List.getElem?_append_left (by rw [flX_len]; omega)]
      exact flX_at X n i j (by omega) hj
theorem flX_mem {X : Nat → Nat → Int} {n : Nat} {u : Value} (h : u ∈ flX X n) : ∃ y, u = .int .i64 y := by
  unfold flX at h
  obtain ⟨i, _, hi⟩ := List.mem_flatMap.1 h
  simp at hi
  rcases hi with rfl | rfl | rfl <;> exact ⟨_, rfl⟩
theorem flX_cell {X : Nat → Nat → Int} {N : Nat} {w : World} {b o : Nat} (h : ∀ i j, i < N → j < 3 → w.cell? ⟨b, o + i * 3 + j, none⟩ = some (.int .i64 (X i j))) : ∀ j u, (flX X N)[j]? = some u → w.cell? ⟨b, o + j, none⟩ = some u := fun j u hu => by
  have hj := (List.getElem?_eq_some_iff.1 hu).1
  rw [flX_len] at hj
  have e : j = (j / 3) * 3 + j % 3 := by omega
  have q := h (j / 3) (j % 3) (by omega) (by omega)
  have q2 := flX_at X N (j / 3) (j % 3) (by omega) (by omega)
  rw [← e] at q2
  rw [q2] at hu
  cases hu
  rw [show o + j = o + (j / 3) * 3 + j % 3 by omega]
  exact q
def qC (qb : Nat → Nat) (k : Nat) : List Value := (List.range k).map fun i => .pointer (some ⟨qb i, 0, none⟩)
theorem qC_succ (qb : Nat → Nat) (k x : Nat) : qC (Sh.upn qb k x) (k + 1) = qC qb k ++ [.pointer (some ⟨x, 0, none⟩)] := by
  unfold qC
  rw [List.range_succ, List.map_append]
  congr 1
  · refine List.map_congr_left fun i hi => ?_
    have : i < k := by simpa using hi
    simp only [Sh.upn]
    rw [if_neg (by omega)]
  · simp [Sh.upn]
theorem qC_snoc (qb : Nat → Nat) (k : Nat) : qC qb (k + 1) = qC qb k ++ [.pointer (some ⟨qb k, 0, none⟩)] := by simp [qC, List.range_succ]
theorem qC_succ_same (qb : Nat → Nat) (k x : Nat) : qC (Sh.upn qb k x) (k + 1) = qC (Sh.upn qb k x) k ++ [.pointer (some ⟨x, 0, none⟩)] := by
  rw [qC_snoc]
  simp [Sh.upn]
theorem qC_at (qb : Nat → Nat) (k i : Nat) (h : i < k) : (qC qb k)[i]? = some (.pointer (some ⟨qb i, 0, none⟩)) := by simp [qC, h]
def iC (X : Nat → Nat → Int) (k : Nat) : List Value := (List.range k).map fun i => .int .i64 (X i 1)
theorem iC_succ (X : Nat → Nat → Int) (k : Nat) : iC X (k + 1) = iC X k ++ [.int .i64 (X k 1)] := by simp [iC, List.range_succ]
theorem iC_at (X : Nat → Nat → Int) (k i : Nat) (h : i < k) : (iC X k)[i]? = some (.int .i64 (X i 1)) := by simp [iC, h]
def shN (fb cf N : Nat) (qa p : Value) : List Value := [.slice (some ⟨fb, 0, none⟩) N cf, qa, p] ++ (tokC (fun _ => 0) ++ [.int .i64 0, .int .i64 0])
def lab (kd : Nat → Nat) (b x : Nat) : Nat → Nat := fun c => if c = b then x else kd c
theorem lab_ne {kd : Nat → Nat} {b x c : Nat} (h : c ≠ b) : lab kd b x c = kd c := if_neg h
theorem lab_eq (kd : Nat → Nat) (b x : Nat) : lab kd b x b = x := if_pos rfl
theorem PQ.nil_ns {w : World} {qb rb room pos dr : Nat} {ns ns2 : List Nat} (h : PQ w qb rb room pos dr [] ns) : PQ w qb rb room pos dr [] ns2 := by
  obtain ⟨pk, hr, _⟩ := h.r
  exact ⟨h.q, ⟨pk, hr, fun j p hj => by simp at hj⟩, h.s⟩
theorem PQ.kf_nil {L : List Nat} {w w' : World} {qb rb room pos dr : Nat} (h : PQ w qb rb room pos dr [] []) (k : By.KF L w w') (h1 : qb ∉ L) (h2 : rb ∉ L) : PQ w' qb rb room pos dr [] [] :=
  PQ.nil_ns (((PQ.nil_ns h (ns2 := L)).kf k (fun q hq => hq) h1 h2))
def flowOk (X : Nat → Nat → Int) (i : Nat) : Prop := 1 ≤ X i 0 ∧ X i 0 ≤ 16 ∧ 1 ≤ X i 2 ∧ X i 2 ≤ 64
/-- A shaper while it is made. -/
structure NwS (w0 w : World) (X : Nat → Nat → Int) (N s fb cf k kr kw : Nat) (qa wa : Value) (qb rb kd : Nat → Nat) : Prop where
  b : Bs.Blk w s (shN fb cf N qa (.pointer none))
  f : Bs.Blk w fb (flX X N)
  q : w.ownsRow w0.heap.size 67 1 qa kr (qC qb kr)
  wt : w.ownsRow w0.heap.size 3 1 wa kw (iC X kw)
  p : ∀ i, i < k → PQ w (qb i) (rb i) (X i 2).toNat 0 0 [] []
  g : ∀ i, i < k → flowOk X i
  k1 : kd s = 1 ∧ kd fb = 2 ∧ (∀ q, qa.ownBlock = some q → kd q = 3) ∧ (∀ q, wa.ownBlock = some q → kd q = 9)
  kq : ∀ i, i < k → kd (qb i) = 10 + 2 * i ∧ kd (rb i) = 11 + 2 * i
  ge : w0.heap.size ≤ s ∧ w0.heap.size ≤ fb ∧ ∀ i, i < k → w0.heap.size ≤ qb i ∧ w0.heap.size ≤ rb i
  bel : Below w0.heap.size w0 w
section
variable {w0 w w' : World} {X : Nat → Nat → Int} {N s fb cf k kr kw : Nat} {qa wa : Value} {qb rb kd : Nat → Nat}
theorem NwS.below (h : NwS w0 w X N s fb cf k kr kw qa wa qb rb kd) (b : Below w.heap.size w w') : NwS w0 w' X N s fb cf k kr kw qa wa qb rb kd := by
  have kf : By.KF [] w w' := By.KF.of b
  exact ⟨h.b.bel b, h.f.bel b, own_kf h.q kf (fun q _ => by simp), own_kf h.wt kf (fun q _ => by simp), fun i hi => (h.p i hi).bel b, h.g, h.k1, h.kq, h.ge, h.bel.trans (b.mono h.bel.size)⟩
theorem qC_same {qb qb' : Nat → Nat} {k : Nat} (h : ∀ i, i < k → qb i = qb' i) : qC qb k = qC qb' k := List.map_congr_left fun i hi => by rw [h i (by simpa using hi)]
/-- A queue is made. -/
theorem NwS.queue (h : NwS w0 w X N s fb cf k k kw qa wa qb rb kd) {q r : Nat} (b : Below w.heap.size w w') (hp : PQ w' q r (X k 2).toNat 0 0 [] []) (hq : w.heap.size ≤ q) (hr : w.heap.size ≤ r) (hok : flowOk X k) :
    NwS w0 w' X N s fb cf (k + 1) k kw qa wa (Sh.upn qb k q) (Sh.upn rb k r) (lab (lab kd q (10 + 2 * k)) r (11 + 2 * k)) := by
  have old : ∀ c, c < w.heap.size → lab (lab kd q (10 + 2 * k)) r (11 + 2 * k) c = kd c := fun c hc => by rw [lab_ne (by omega), lab_ne (by omega)]
  have h' := h.below b
  refine ⟨h'.b, h'.f, ?_, h'.wt, fun i hi => ?_, fun i hi => ?_, ⟨(old _ h.b.l).trans h.k1.1, (old _ h.f.l).trans h.k1.2.1, fun c hc => (old _ (h.q.lt c hc).2).trans (h.k1.2.2.1 c hc), fun c hc => (old _ (h.wt.lt c hc).2).trans (h.k1.2.2.2 c hc)⟩, fun i hi => ?_, ⟨h.ge.1, h.ge.2.1, fun i hi => ?_⟩, h'.bel⟩
  · rw [qC_same (qb := Sh.upn qb k q) (qb' := qb) (fun i hi => by unfold Sh.upn; rw [if_neg (by omega)])]
    exact h'.q
  · unfold Sh.upn
    by_cases e : i = k
    · subst e; simp only [if_true]; exact hp
    · simp only [if_neg e]; exact (h.p i (by omega)).bel b
  · by_cases e : i = k
    · subst e; exact hok
    · exact h.g i (by omega)
  · unfold Sh.upn
    by_cases e : i = k
    · subst e
      simp only [if_true]
      exact ⟨by rw [lab_ne (hp.q.ne), lab_eq], lab_eq _ _ _⟩
    · simp only [if_neg e]
      have hl := (h.p i (by omega)).lt
      rw [old _ hl.1, old _ hl.2]
      exact h.kq i (by omega)
  · unfold Sh.upn
    have := h.bel.size
    split
    · omega
    · exact h.ge.2.2 i (by omega)
theorem shN_set (fb cf N : Nat) (qa p v : Value) : (shN fb cf N qa p).set 1 v = shN fb cf N v p := rfl
/-- The row of queues is longer. -/
theorem NwS.row (h : NwS w0 w X N s fb cf k kr kw qa wa qb rb kd) {w5 : World} {v5 : Value} {kr' : Nat} (ho : w5.ownsRow w0.heap.size 67 1 v5 kr' (qC qb kr')) (hg : w.grownBy w5 qa.ownBlock) (hor : v5.ownBlock = qa.ownBlock ∨ v5.ownBlock = some w.heap.size) :
    NwS w0 (w5.setCell ⟨s, 1, none⟩ v5) X N s fb cf k kr' kw v5 wa qb rb (lab kd w.heap.size 3) := by
  have k1 : By.KF qa.ownBlock.toList w w5 := By.KF.grown1 hg
  have k2 : By.KF [s] w5 (w5.setCell ⟨s, 1, none⟩ v5) := (By.KF.refl _ _).set (.inl (by simp)) _
  have m1 : ∀ c, kd c ≠ 3 → c ∉ qa.ownBlock.toList := fun c hc z => hc (h.k1.2.2.1 c (by simpa using z))
  have m2 : ∀ c, kd c ≠ 1 → c ∉ [s] := fun c hc z => by simp at z; exact hc (by rw [z]; exact h.k1.1)
  have old : ∀ c, c < w.heap.size → lab kd w.heap.size 3 c = kd c := fun c hc => lab_ne (by omega)
  have hv5 : ∀ c, v5.ownBlock = some c → lab kd w.heap.size 3 c = 3 := fun c hc => by
    rcases hor with z | z
    · rw [z] at hc
      rw [old _ (h.q.lt c hc).2]
      exact h.k1.2.2.1 c hc
    · rw [z] at hc
      cases hc
      exact lab_eq _ _ _
  have hs5 : lab kd w.heap.size 3 s = 1 := (old _ h.b.l).trans h.k1.1
  refine ⟨?_, ?_, ?_, ?_, fun i hi => ?_, h.g, ⟨hs5, (old _ h.f.l).trans h.k1.2.1, hv5, fun c hc => (old _ (h.wt.lt c hc).2).trans (h.k1.2.2.2 c hc)⟩, fun i hi => ?_, h.ge, ?_⟩
  · have := (k1.blk h.b (m1 _ (by have := h.k1.1; omega))).set (i := 1) (by simp [shN, tokC]) v5
    rwa [shN_set] at this
  · exact k2.blk (k1.blk h.f (m1 _ (by have := h.k1.2.1; omega))) (m2 _ (by have := h.k1.2.1; omega))
  · exact own_kf ho k2 (fun c hc => by simp; intro e; subst e; have := hv5 c hc; omega)
  · exact own_kf (own_kf h.wt k1 (fun c hc => m1 c (by have := h.k1.2.2.2 c hc; omega))) k2 (fun c hc => m2 c (by have := h.k1.2.2.2 c hc; omega))
  · have e := h.kq i hi
    exact PQ.kf_nil (PQ.kf_nil (h.p i hi) k1 (m1 _ (by omega)) (m1 _ (by omega))) k2 (m2 _ (by omega)) (m2 _ (by omega))
  · have hl := (h.p i hi).lt
    rw [old _ hl.1, old _ hl.2]
    exact h.kq i hi
  · exact (h.bel.grown hg h.bel.size (fun q hq => (h.q.lt q hq).1)).setCell (p := ⟨s, 1, none⟩) h.ge.1 v5
/-- The row of weights is longer. -/
theorem NwS.wts (h : NwS w0 w X N s fb cf k kr kw qa wa qb rb kd) {w5 : World} {v5 : Value} {kw' : Nat} (ho : w5.ownsRow w0.heap.size 3 1 v5 kw' (iC X kw')) (hg : w.grownBy w5 wa.ownBlock) (hor : v5.ownBlock = wa.ownBlock ∨ v5.ownBlock = some w.heap.size) :
    NwS w0 w5 X N s fb cf k kr kw' qa v5 qb rb (lab kd w.heap.size 9) := by
  have k1 : By.KF wa.ownBlock.toList w w5 := By.KF.grown1 hg
  have m1 : ∀ c, kd c ≠ 9 → c ∉ wa.ownBlock.toList := fun c hc z => hc (h.k1.2.2.2 c (by simpa using z))
  have old : ∀ c, c < w.heap.size → lab kd w.heap.size 9 c = kd c := fun c hc => lab_ne (by omega)
  have hv5 : ∀ c, v5.ownBlock = some c → lab kd w.heap.size 9 c = 9 := fun c hc => by
    rcases hor with z | z
    · rw [z] at hc
      rw [old _ (h.wt.lt c hc).2]
      exact h.k1.2.2.2 c hc
    · rw [z] at hc
      cases hc
      exact lab_eq _ _ _
  refine ⟨k1.blk h.b (m1 _ (by have := h.k1.1; omega)), k1.blk h.f (m1 _ (by have := h.k1.2.1; omega)), own_kf h.q k1 (fun c hc => m1 c (by have := h.k1.2.2.1 c hc; omega)), ho, fun i hi => ?_, h.g, ⟨(old _ h.b.l).trans h.k1.1, (old _ h.f.l).trans h.k1.2.1, fun c hc => (old _ (h.q.lt c hc).2).trans (h.k1.2.2.1 c hc), hv5⟩, fun i hi => ?_, h.ge, h.bel.grown hg h.bel.size (fun q hq => (h.wt.lt q hq).1)⟩
  · have e := h.kq i hi
    exact PQ.kf_nil (h.p i hi) k1 (m1 _ (by omega)) (m1 _ (by omega))
  · have hl := (h.p i hi).lt
    rw [old _ hl.1, old _ hl.2]
    exact h.kq i hi
end
/-- A new shaper. -/
def g0 : Gs := ⟨fun _ => [], fun _ => 0, fun _ => 0, 0, 0, sched0, 0, 0⟩
def newSOk (N : Nat) (X : Nat → Nat → Int) : Prop := 1 ≤ N ∧ N ≤ 8 ∧ ∀ i, i < N → flowOk X i ∧ 1 ≤ X i 1 ∧ X i 1 ≤ 16
def NewS (N : Nat) (X : Nat → Nat → Int) (L : List Nat) (w : World) (e : Ending) (w' : World) : Prop :=
  ((newSOk N X ∧ ∃ I : Ids, e = .returned (.tuple #[.pointer (some ⟨I.s, 0, none⟩), .int .i64 0]) ∧ SHP I g0 L w' ∧ I.N = N ∧ I.T = (fun i => X i 0) ∧ I.W = (fun i => X i 1) ∧ I.R = (fun i => X i 2) ∧ I.ALL = sumW I.W N ∧ ∀ q, q ∈ I.ns → w.heap.size ≤ q) ∨
   (¬ newSOk N X ∧ ∃ x : Int, x ≠ 0 ∧ e = .returned (.tuple #[.pointer none, .int .i64 x]))) ∧ Below w.heap.size w w'
end Sh
end Go.Proofs.Ytkefkophlhcbiaa
