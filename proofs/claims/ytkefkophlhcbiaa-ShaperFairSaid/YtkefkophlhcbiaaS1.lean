/- The shaper: its state; what leaves it as it is. -/
import Derived.Test.YtkefkophlhcbiaaF16
import Derived.Test.YtkefkophlhcbiaaF23
import Derived.Test.YtkefkophlhcbiaaMC
import Derived.Test.YtkefkophlhcbiaaMB
namespace Go.Proofs.Ytkefkophlhcbiaa
open Go.ChangeShapes Go.WideShapes Go.ChangeAt Go.RowKit
set_option linter.unusedVariables false
set_option linter.unusedSimpArgs false

namespace Sh
open Fa (FD Inv Sched Picked pickX toldN PM)
open Fp (Pt PQ)
/-- Where a shaper lies, and what never changes of it. -/
structure Ids where
  s : Nat
  fb : Nat
  cf : Nat
  qr : Nat
  cq : Nat
  f : Nat
  lb : Nat
  cl : Nat
  N : Nat
  T : Nat → Int
  W : Nat → Int
  R : Nat → Int
  qb : Nat → Nat
  rb : Nat → Nat
  ALL : Int
/-- What changes: queues, drops, tokens, the link's budget, how many came, the scheduler, how many picks, how many calls. -/
structure Gs where
  Q : Nat → List Pt
  dr : Nat → Nat
  tok : Nat → Int
  link : Int
  came : Nat
  x : Sched
  p : Nat
  n : Nat
def Ids.room (I : Ids) (i : Nat) : Nat := (I.R i).toNat
def Ids.ns (I : Ids) : List Nat := I.s :: I.f :: I.lb :: (List.range I.N).flatMap (fun i => [I.qb i, I.rb i])
theorem Ids.mem_ns {I : Ids} {b : Nat} : b ∈ I.ns ↔ b = I.s ∨ b = I.f ∨ b = I.lb ∨ ∃ i, i < I.N ∧ (b = I.qb i ∨ b = I.rb i) := by
  unfold Ids.ns
  simp only [List.mem_cons, List.mem_flatMap, List.mem_range, List.not_mem_nil, or_false]
def tokC (tok : Nat → Int) : List Value := (List.range 17).map fun i => .int .i64 (tok i)
theorem tokC_len (tok : Nat → Int) : (tokC tok).length = 17 := by simp [tokC]
def shC (I : Ids) (G : Gs) : List Value := [.slice (some ⟨I.fb, 0, none⟩) I.N I.cf, .slice (some ⟨I.qr, 0, none⟩) I.N I.cq, .pointer (some ⟨I.f, 0, none⟩)] ++ (tokC G.tok ++ [.int .i64 G.link, .int .i64 (G.came : Nat)])
theorem shC_len (I : Ids) (G : Gs) : (shC I G).length = 22 := by simp [shC, tokC]
theorem shC_tok (I : Ids) (G : Gs) (i : Nat) (h : i < 17) : (shC I G)[3 + i]? = some (.int .i64 (G.tok i)) := by
  unfold shC
  rw [List.getElem?_append_right (by simp), show 3 + i - ([Value.slice (some ⟨I.fb, 0, none⟩) I.N I.cf, .slice (some ⟨I.qr, 0, none⟩) I.N I.cq, .pointer (some ⟨I.f, 0, none⟩)] : List Value).length = i by simp, List.getElem?_append_left (by rw [tokC_len]; omega)]
  simp [tokC, h]
def up (A : Nat → Int) (k : Nat) (x : Int) : Nat → Int := fun i => if i = k then x else A i
def upQ (A : Nat → List Pt) (k : Nat) (x : List Pt) : Nat → List Pt := fun i => if i = k then x else A i
def upn (A : Nat → Nat) (k x : Nat) : Nat → Nat := fun i => if i = k then x else A i
theorem shC_setTok (I : Ids) (G : Gs) (k : Nat) (h : k < 17) (v : Int) : (shC I G).set (3 + k) (.int .i64 v) = shC I { G with tok := up G.tok k v } := by
  refine List.ext_getElem? fun i => ?_
  rw [List.getElem?_set]
  by_cases e : 3 + k = i
  · subst e
    rw [if_pos rfl, if_pos (by rw [shC_len]; omega), shC_tok I _ k h]
    simp [up]
  · rw [if_neg e]
    by_cases h1 : i < 3
    · have : i = 0 ∨ i = 1 ∨ i = 2 := by omega
      rcases this with rfl | rfl | rfl <;> rfl
    · by_cases h2 : i < 20
      · obtain ⟨j, rfl⟩ : ∃ j, i = 3 + j := ⟨i - 3, by omega⟩
        rw [shC_tok I _ j (by omega), shC_tok I _ j (by omega)]
        simp only [up]
        rw [if_neg (by omega)]
      · by_cases h3 : i < 22
        · have : i = 20 ∨ i = 21 := by omega
          rcases this with rfl | rfl <;> rfl
        · rw [List.getElem?_eq_none (by rw [shC_len]; omega), List.getElem?_eq_none (by rw [shC_len]; omega)]
theorem shC_setLink (I : Ids) (G : Gs) (v : Int) : (shC I G).set 20 (.int .i64 v) = shC I { G with link := v } := by
  refine List.ext_getElem? fun i => ?_
  rw [List.getElem?_set]
  by_cases e : 20 = i
  · subst e
    rw [if_pos rfl, if_pos (by rw [shC_len]; omega)]
    rfl
  · rw [if_neg e]
    by_cases h3 : i < 22
    · have : i < 20 ∨ i = 21 := by omega
      rcases this with h | rfl
      · by_cases h1 : i < 3
        · have : i = 0 ∨ i = 1 ∨ i = 2 := by omega
          rcases this with rfl | rfl | rfl <;> rfl
        · obtain ⟨j, rfl⟩ : ∃ j, i = 3 + j := ⟨i - 3, by omega⟩
          rw [shC_tok I _ j (by omega), shC_tok I _ j (by omega)]
      · rfl
    · rw [List.getElem?_eq_none (by rw [shC_len]; omega), List.getElem?_eq_none (by rw [shC_len]; omega)]
theorem shC_setCame (I : Ids) (G : Gs) (v : Nat) : (shC I G).set 21 (.int .i64 (v : Nat)) = shC I { G with came := v } := by
  refine List.ext_getElem? fun i => ?_
  rw [List.getElem?_set]
  by_cases e : 21 = i
  · subst e
    rw [if_pos rfl, if_pos (by rw [shC_len]; omega)]
    rfl
  · rw [if_neg e]
    by_cases h3 : i < 22
    · by_cases h1 : i < 3
      · have : i = 0 ∨ i = 1 ∨ i = 2 := by omega
        rcases this with rfl | rfl | rfl <;> rfl
      · by_cases h2 : i < 20
        · obtain ⟨j, rfl⟩ : ∃ j, i = 3 + j := ⟨i - 3, by omega⟩
          rw [shC_tok I _ j (by omega), shC_tok I _ j (by omega)]
        · obtain rfl : i = 20 := by omega
          rfl
    · rw [List.getElem?_eq_none (by rw [shC_len]; omega), List.getElem?_eq_none (by rw [shC_len]; omega)]
theorem shC_same {I : Ids} {G G' : Gs} (h1 : G'.tok = G.tok) (h2 : G'.link = G.link) (h3 : G'.came = G.came) : shC I G' = shC I G := by
  unfold shC
  rw [h1, h2, h3]
/-- How many packets wait. -/
def totQ (Q : Nat → List Pt) : Nat → Nat
  | 0 => 0
  | n + 1 => totQ Q n + (Q n).length
theorem totQ_same {Q Q' : Nat → List Pt} : ∀ n, (∀ i, i < n → Q i = Q' i) → totQ Q n = totQ Q' n
  | 0, _ => rfl
  | n + 1, h => by unfold totQ; rw [totQ_same n (fun i hi => h i (by omega)), h n (by omega)]
theorem totQ_up {Q : Nat → List Pt} {k : Nat} {l : List Pt} : ∀ n, k < n → totQ (upQ Q k l) n + (Q k).length = totQ Q n + l.length
  | n + 1, h => by
    unfold totQ
    by_cases e : k = n
    · subst e
      rw [totQ_same (Q := upQ Q k l) (Q' := Q) k (fun i hi => by unfold upQ; rw [if_neg (by omega)])]
      simp only [upQ, if_true]
      omega
    · have h1 := totQ_up (Q := Q) (l := l) n (show k < n by omega)
      have h2 : upQ Q k l n = Q n := by unfold upQ; rw [if_neg (by omega)]
      rw [h2]
      omega
/-- A packet as a shaper holds it. -/
def PtOk (t : Int) (p : Pt) : Prop := p.t = t ∧ 0 ≤ p.C ∧ p.C ≤ 255 ∧ p.d.length ≤ 1492 ∧ ∀ x ∈ p.d, x < 256
/-- A shaper in memory. -/
structure SH (I : Ids) (G : Gs) (L : List Nat) (w : World) (tb ct : Nat) (pos kd : Nat → Nat) : Prop where
  b : Bs.Blk w I.s (shC I G)
  fl : ∀ i, i < I.N → w.cell? ⟨I.fb, i * 3, none⟩ = some (.int .i64 (I.T i)) ∧ w.cell? ⟨I.fb, i * 3 + 1, none⟩ = some (.int .i64 (I.W i)) ∧ w.cell? ⟨I.fb, i * 3 + 2, none⟩ = some (.int .i64 (I.R i))
  qr : ∀ i, i < I.N → w.cell? ⟨I.qr, i, none⟩ = some (.pointer (some ⟨I.qb i, 0, none⟩))
  pq : ∀ i, i < I.N → PQ w (I.qb i) (I.rb i) (I.room i) (pos i) (G.dr i) (G.Q i) (I.ns ++ L)
  li : ∀ q, q ∈ L → q < w.heap.size ∧ kd q = 7
  fd : FD w I.f I.lb I.cl tb ct I.N I.ALL G.x.V I.W G.x.Z G.x.D G.x.S G.x.F
  inv : Inv (PM * (G.p : Nat)) I.ALL G.x.V I.N I.W G.x.Z G.x.D G.x.S G.x.F
  k : kd I.s = 1 ∧ kd I.fb = 2 ∧ kd I.qr = 3 ∧ kd I.f = 4 ∧ kd I.lb = 5 ∧ kd tb = 6
  kq : ∀ i, i < I.N → kd (I.qb i) = 10 + 2 * i ∧ kd (I.rb i) = 11 + 2 * i
  ten : ∀ i, i < I.N → 1 ≤ I.T i ∧ I.T i ≤ 16
  tk : ∀ i, i < 17 → 0 ≤ G.tok i ∧ G.tok i ≤ 1099511627776
  lk : -1500 ≤ G.link ∧ G.link ≤ 1048576
  pk : ∀ i, i < I.N → ∀ p, p ∈ G.Q i → PtOk (I.T i) p
  acc : G.p + totQ G.Q I.N ≤ G.n ∧ G.came ≤ G.n ∧ (∀ i, i < I.N → G.dr i ≤ G.n) ∧ G.n ≤ 6000
def SHP (I : Ids) (G : Gs) (L : List Nat) (w : World) : Prop := ∃ tb ct pos kd, SH I G L w tb ct pos kd
theorem blk_vr {w : World} {b : Nat} {l : List Value} (h : Bs.Blk w b l) : Vr.Blk w b l := ⟨h.c, h.f, h.l⟩
theorem blk_bs {w : World} {b : Nat} {l : List Value} (h : Vr.Blk w b l) : Bs.Blk w b l := ⟨h.c, h.f, h.l⟩
theorem kf_by {l : List Nat} {w w' : World} (h : Fa.KF l w w') : By.KF l w w' := ⟨h.b, h.k⟩
theorem kf_fa {l : List Nat} {w w' : World} (h : By.KF l w w') : Fa.KF l w w' := ⟨h.b, h.k⟩
section
variable {I : Ids} {G : Gs} {L : List Nat} {w w' : World} {tb ct : Nat} {pos kd : Nat → Nat}
theorem SH.n1 (h : SH I G L w tb ct pos kd) : 1 ≤ I.N ∧ I.N ≤ 8 := ⟨h.fd.n1, h.fd.n8⟩
theorem SH.fbl (h : SH I G L w tb ct pos kd) : I.fb < w.heap.size := World.block_lt_of_cell? _ _ (h.fl 0 h.n1.1).1
theorem SH.qrl (h : SH I G L w tb ct pos kd) : I.qr < w.heap.size := World.block_lt_of_cell? _ _ (h.qr 0 h.n1.1)
theorem SH.ns_lt (h : SH I G L w tb ct pos kd) : ∀ q, q ∈ I.ns ++ L → q < w.heap.size := fun q hq => by
  rcases List.mem_append.1 hq with hq | hq
  rotate_left
  · exact (h.li q hq).1
  rcases Ids.mem_ns.1 hq with rfl | rfl | rfl | ⟨i, hi, rfl | rfl⟩
  · exact h.b.l
  · exact h.fd.b.l
  · exact h.fd.l.l
  · exact (h.pq i hi).lt.1
  · exact (h.pq i hi).lt.2
theorem SH.bel (h : SH I G L w tb ct pos kd) (k : Below w.heap.size w w') : SH I G L w' tb ct pos kd :=
  ⟨h.b.bel k, fun i hi => by
    have a := h.fbl
    exact ⟨(k.cell (p := ⟨I.fb, _, none⟩) a).trans (h.fl i hi).1, (k.cell (p := ⟨I.fb, _, none⟩) a).trans (h.fl i hi).2.1, (k.cell (p := ⟨I.fb, _, none⟩) a).trans (h.fl i hi).2.2⟩,
   fun i hi => (k.cell (p := ⟨I.qr, _, none⟩) h.qrl).trans (h.qr i hi), fun i hi => (h.pq i hi).bel k, fun q hq => ⟨Nat.lt_of_lt_of_le (h.li q hq).1 k.size, (h.li q hq).2⟩, h.fd.bel k, h.inv, h.k, h.kq, h.ten, h.tk, h.lk, h.pk, h.acc⟩
/-- What a block that is written is not. -/
theorem SH.ne (h : SH I G L w tb ct pos kd) {a b : Nat} (e : kd a ≠ kd b) : a ≠ b := fun q => e (by rw [q])
theorem SH.cellK (h : SH I G L w tb ct pos kd) {L : List Nat} (k : By.KF L w w') {b o : Nat} {v : Value} (hb : w.cell? ⟨b, o, none⟩ = some v) (hL : b ∉ L) : w'.cell? ⟨b, o, none⟩ = some v :=
  (World.cell?_of_block (k.k b (World.block_lt_of_cell? _ _ hb) hL)).trans hb
/-- A store into the shaper itself. -/
theorem SH.store (h : SH I G L w tb ct pos kd) {G' : Gs} {o : Nat} {v : Value} (ho : o < 22) (hc : (shC I G).set o v = shC I G') (hQ : G'.Q = G.Q) (hd : G'.dr = G.dr) (hx : G'.x = G.x) (hp : G'.p = G.p)
    (htk : ∀ i, i < 17 → 0 ≤ G'.tok i ∧ G'.tok i ≤ 1099511627776) (hlk : -1500 ≤ G'.link ∧ G'.link ≤ 1048576) (hn : G.n ≤ G'.n ∧ G'.n ≤ 6000) (hcm : G'.came ≤ G'.n) :
    SH I G' L (w.setCell ⟨I.s, o, none⟩ v) tb ct pos kd := by
  have k : By.KF [I.s] w (w.setCell ⟨I.s, o, none⟩ v) := (By.KF.refl _ _).set (.inl (by simp)) _
  have hk := h.k
  refine ⟨?_, fun i hi => ?_, fun i hi => ?_, fun i hi => ?_, fun q hq => ⟨Nat.lt_of_lt_of_le (h.li q hq).1 k.size, (h.li q hq).2⟩, ?_, ?_, h.k, h.kq, h.ten, htk, hlk, ?_, ?_⟩
  · have := h.b.set (i := o) (by rw [shC_len]; exact ho) v
    rwa [hc] at this
  · have e : I.fb ∉ [I.s] := by simp; exact h.ne (by rw [hk.1, hk.2.1]; decide)
    exact ⟨h.cellK k (h.fl i hi).1 e, h.cellK k (h.fl i hi).2.1 e, h.cellK k (h.fl i hi).2.2 e⟩
  · exact h.cellK k (h.qr i hi) (by simp; exact h.ne (by rw [hk.1, hk.2.2.1]; decide))
  · rw [hQ, hd]
    have e := h.kq i hi
    exact (h.pq i hi).kf k (fun q hq => by simp at hq; subst hq; exact List.mem_append_left _ (Ids.mem_ns.2 (.inl rfl))) (by simp; exact h.ne (by rw [hk.1, e.1]; omega)) (by simp; exact h.ne (by rw [hk.1, e.2]; omega))
  · rw [hx]
    exact (kf_fa k).fd h.fd (by simp; exact h.ne (by rw [hk.1, hk.2.2.2.1]; decide)) (by simp; exact h.ne (by rw [hk.1, hk.2.2.2.2.1]; decide)) (by simp; exact h.ne (by rw [hk.1, hk.2.2.2.2.2]; decide))
  · rw [hx, hp]; exact h.inv
  · rw [hQ]; exact h.pk
  · have a := h.acc
    rw [hQ, hp, hd]
    exact ⟨by omega, hcm, fun i hi => by have := a.2.2.1 i hi; omega, hn.2⟩
/-- A queue is changed. -/
theorem SH.queue (h : SH I G L w tb ct pos kd) {j : Nat} (hj : j < I.N) {G' : Gs} {l : List Pt} {d ps : Nat} (k : By.KF [I.qb j, I.rb j] w w') (hq : PQ w' (I.qb j) (I.rb j) (I.room j) ps d l (I.ns ++ L))
    (hQ : G'.Q = upQ G.Q j l) (hd : G'.dr = upn G.dr j d) (hx : G'.x = G.x) (hp : G'.p = G.p) (ht : G'.tok = G.tok) (hl : G'.link = G.link) (hcm : G'.came = G.came)
    (hpk : ∀ p, p ∈ l → PtOk (I.T j) p) (hacc : G'.p + totQ G'.Q I.N ≤ G'.n) (hn : G.n ≤ G'.n ∧ G'.n ≤ 6000) (hdn : d ≤ G'.n) :
    SH I G' L w' tb ct (upn pos j ps) kd := by
  have hk := h.k
  have hkj := h.kq j hj
  have nm : ∀ b, kd b ≠ 10 + 2 * j → kd b ≠ 11 + 2 * j → b ∉ [I.qb j, I.rb j] := fun b h1 h2 q => by
    simp at q
    rcases q with rfl | rfl
    · exact h1 hkj.1
    · exact h2 hkj.2
  refine ⟨?_, fun i hi => ?_, fun i hi => ?_, fun i hi => ?_, fun q hq => ⟨Nat.lt_of_lt_of_le (h.li q hq).1 k.size, (h.li q hq).2⟩, ?_, ?_, h.k, h.kq, h.ten, ?_, ?_, fun i hi p hp => ?_, ?_⟩
  · rw [shC_same ht hl hcm]
    exact k.blk h.b (nm _ (by omega) (by omega))
  · have e := nm I.fb (by omega) (by omega)
    exact ⟨h.cellK k (h.fl i hi).1 e, h.cellK k (h.fl i hi).2.1 e, h.cellK k (h.fl i hi).2.2 e⟩
  · exact h.cellK k (h.qr i hi) (nm _ (by omega) (by omega))
  · rw [hQ, hd]
    unfold upQ upn
    by_cases e : i = j
    · subst e; simp only [if_true]; exact hq
    · simp only [if_neg e]
      have hki := h.kq i hi
      exact (h.pq i hi).kf k (fun q hq => by simp at hq; exact List.mem_append_left _ (Ids.mem_ns.2 (.inr (.inr (.inr ⟨j, hj, hq⟩))))) (nm _ (by omega) (by omega)) (nm _ (by omega) (by omega))
  · rw [hx]
    exact (kf_fa k).fd h.fd (nm _ (by omega) (by omega)) (nm _ (by omega) (by omega)) (nm _ (by omega) (by omega))
  · rw [hx, hp]; exact h.inv
  · rw [ht]; exact h.tk
  · rw [hl]; exact h.lk
  · rw [hQ] at hp
    unfold upQ at hp
    by_cases e : i = j
    · subst e; simp only [if_true] at hp; exact hpk p hp
    · simp only [if_neg e] at hp; exact h.pk i hi p hp
  · have a := h.acc
    refine ⟨hacc, by rw [hcm]; omega, fun i hi => ?_, hn.2⟩
    rw [hd]
    unfold upn
    split
    · exact hdn
    · have := a.2.2.1 i hi; omega
/-- The scheduler is changed. -/
theorem SH.fair (h : SH I G L w tb ct pos kd) {G' : Gs} {tb' ct' : Nat} (k : By.KF [I.f, I.lb] w w') (htb : tb' = tb ∨ w.heap.size ≤ tb') (hfd : FD w' I.f I.lb I.cl tb' ct' I.N I.ALL G'.x.V I.W G'.x.Z G'.x.D G'.x.S G'.x.F)
    (hinv : Inv (PM * (G'.p : Nat)) I.ALL G'.x.V I.N I.W G'.x.Z G'.x.D G'.x.S G'.x.F) (hQ : G'.Q = G.Q) (hd : G'.dr = G.dr) (ht : G'.tok = G.tok) (hl : G'.link = G.link) (hcm : G'.came = G.came)
    (hacc : G'.p + totQ G'.Q I.N ≤ G'.n) (hn : G.n ≤ G'.n ∧ G'.n ≤ 6000) :
    ∃ kd', SH I G' L w' tb' ct' pos kd' := by
  have hk := h.k
  have nm : ∀ b, kd b ≠ 4 → kd b ≠ 5 → b ∉ [I.f, I.lb] := fun b h1 h2 q => by
    simp at q
    rcases q with rfl | rfl
    · exact h1 hk.2.2.2.1
    · exact h2 hk.2.2.2.2.1
  have hlt : ∀ b, b < w.heap.size → kd b ≠ 6 → b ≠ tb' := fun b hb h6 e => by
    subst e
    rcases htb with rfl | z
    · exact h6 hk.2.2.2.2.2
    · omega
  have l1 := h.b.l
  have l2 := h.fbl
  have l3 := h.qrl
  have l4 := h.fd.b.l
  have l5 := h.fd.l.l
  refine ⟨fun b => if b = tb' then 6 else kd b, ?_, fun i hi => ?_, fun i hi => ?_, fun i hi => ?_, fun q hq => ⟨Nat.lt_of_lt_of_le (h.li q hq).1 k.size, by rw [if_neg (hlt _ (h.li q hq).1 (by have := (h.li q hq).2; omega))]; exact (h.li q hq).2⟩, hfd, hinv, ?_, fun i hi => ?_, h.ten, ?_, ?_, ?_, ?_⟩
  · rw [shC_same ht hl hcm]
    exact k.blk h.b (nm _ (by omega) (by omega))
  · have e := nm I.fb (by omega) (by omega)
    exact ⟨h.cellK k (h.fl i hi).1 e, h.cellK k (h.fl i hi).2.1 e, h.cellK k (h.fl i hi).2.2 e⟩
  · exact h.cellK k (h.qr i hi) (nm _ (by omega) (by omega))
  · rw [hQ, hd]
    have hki := h.kq i hi
    exact (h.pq i hi).kf k (fun q hq => by simp at hq; exact List.mem_append_left _ (Ids.mem_ns.2 (by rcases hq with e | e; exact .inr (.inl e); exact .inr (.inr (.inl e))))) (nm _ (by omega) (by omega)) (nm _ (by omega) (by omega))
  · refine ⟨?_, ?_, ?_, ?_, ?_, by simp⟩
    · rw [if_neg (hlt _ l1 (by omega))]; exact hk.1
    · rw [if_neg (hlt _ l2 (by omega))]; exact hk.2.1
    · rw [if_neg (hlt _ l3 (by omega))]; exact hk.2.2.1
    · rw [if_neg (hlt _ l4 (by omega))]; exact hk.2.2.2.1
    · rw [if_neg (hlt _ l5 (by omega))]; exact hk.2.2.2.2.1
  · have hki := h.kq i hi
    have hl := (h.pq i hi).lt
    exact ⟨by rw [if_neg (hlt _ hl.1 (by omega))]; exact hki.1, by rw [if_neg (hlt _ hl.2 (by omega))]; exact hki.2⟩
  · rw [ht]; exact h.tk
  · rw [hl]; exact h.lk
  · rw [hQ]; exact h.pk
  · have a := h.acc
    exact ⟨hacc, by rw [hcm]; omega, fun i hi => by rw [hd]; have := a.2.2.1 i hi; omega, hn.2⟩
/-- What the caller writes in blocks of its own. -/
theorem SH.foreign (h : SH I G L w tb ct pos kd) {M : List Nat} (k : By.KF M w w') (hM : ∀ q, q ∈ M → q ∈ L) : SH I G L w' tb ct pos kd := by
  have hk := h.k
  have nm : ∀ b, kd b ≠ 7 → b ∉ M := fun b h1 q => h1 (h.li b (hM b q)).2
  refine ⟨k.blk h.b (nm _ (by omega)), fun i hi => ?_, fun i hi => h.cellK k (h.qr i hi) (nm _ (by omega)), fun i hi => ?_, fun q hq => ⟨Nat.lt_of_lt_of_le (h.li q hq).1 k.size, (h.li q hq).2⟩, (kf_fa k).fd h.fd (nm _ (by omega)) (nm _ (by omega)) (nm _ (by omega)), h.inv, h.k, h.kq, h.ten, h.tk, h.lk, h.pk, h.acc⟩
  · have e := nm I.fb (by omega)
    exact ⟨h.cellK k (h.fl i hi).1 e, h.cellK k (h.fl i hi).2.1 e, h.cellK k (h.fl i hi).2.2 e⟩
  · have hki := h.kq i hi
    exact (h.pq i hi).kf k (fun q hq => List.mem_append_right _ (hM q hq)) (nm _ (by omega)) (nm _ (by omega))
theorem SH.less (h : SH I G L w tb ct pos kd) {M : List Nat} (hM : ∀ q, q ∈ M → q ∈ L) : SH I G M w tb ct pos kd :=
  ⟨h.b, h.fl, h.qr, fun i hi => (h.pq i hi).ns (fun q hq => by
    rcases List.mem_append.1 hq with z | z
    · exact .inr (List.mem_append_left _ z)
    · exact .inr (List.mem_append_right _ (hM q z))), fun q hq => h.li q (hM q hq), h.fd, h.inv, h.k, h.kq, h.ten, h.tk, h.lk, h.pk, h.acc⟩
/-- Blocks that were made since are the caller's. -/
theorem SH.more (h : SH I G L w tb ct pos kd) (k : Below w.heap.size w w') {M : List Nat} (hM : ∀ q, q ∈ M → w.heap.size ≤ q ∧ q < w'.heap.size) : ∃ kd', SH I G (M ++ L) w' tb ct pos kd' := by
  have h' := h.bel k
  have hk := h.k
  have htb : tb < w.heap.size := h.fd.t.hb (by have := h.fd.n1; omega)
  have old : ∀ b, b < w.heap.size → (fun b => if w.heap.size ≤ b then 7 else kd b) b = kd b := fun b hb => if_neg (by omega)
  refine ⟨fun b => if w.heap.size ≤ b then 7 else kd b, h'.b, h'.fl, h'.qr, fun i hi => ?_, fun q hq => ?_, h'.fd, h'.inv, ?_, fun i hi => ?_, h.ten, h.tk, h.lk, h.pk, h.acc⟩
  · have e := (h.pq i hi).ns (ns2 := I.ns ++ (M ++ L)) (fun q hq => by
      rcases List.mem_append.1 hq with z | z
      · exact .inr (List.mem_append_left _ z)
      · rcases List.mem_append.1 z with z | z
        · exact .inl (hM q z).1
        · exact .inr (List.mem_append_right _ z))
    exact e.bel k
  · rcases List.mem_append.1 hq with z | z
    · exact ⟨(hM q z).2, if_pos (hM q z).1⟩
    · exact ⟨(h'.li q z).1, (old q (h.li q z).1).trans (h.li q z).2⟩
  · exact ⟨(old _ h.b.l).trans hk.1, (old _ h.fbl).trans hk.2.1, (old _ h.qrl).trans hk.2.2.1, (old _ h.fd.b.l).trans hk.2.2.2.1, (old _ h.fd.l.l).trans hk.2.2.2.2.1, (old _ htb).trans hk.2.2.2.2.2⟩
  · have hl := (h.pq i hi).lt
    exact ⟨(old _ hl.1).trans (h.kq i hi).1, (old _ hl.2).trans (h.kq i hi).2⟩
end
end Sh
end Go.Proofs.Ytkefkophlhcbiaa
