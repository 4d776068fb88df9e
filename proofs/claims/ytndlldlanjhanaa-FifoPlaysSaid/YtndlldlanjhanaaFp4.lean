/- Queues of packets with what they hold: the document's queue as a list of packets. -/
import Derived.Test.YtndlldlanjhanaaFp3
namespace Go.Proofs.Ytndlldlanjhanaa
open Go.ChangeShapes Go.WideShapes Go.ChangeAt Go.RowKit
set_option linter.unusedVariables false
set_option linter.unusedSimpArgs false
open BigFrame By Fq Bs Fp

namespace Fp
/-- A row of cells holds these packets. -/
def RL (w : World) (ns : List Nat) (vs : List Value) (l : List Pt) : Prop := ∀ (j : Nat) (p : Pt), l[j]? = some p → ∃ v0 v1 v2 v3, vs[j * 4]? = some v0 ∧ vs[j * 4 + 1]? = some v1 ∧ vs[j * 4 + 2]? = some v2 ∧ vs[j * 4 + 3]? = some v3 ∧ IsP w ns p v0 v1 v2 v3
theorem RL.kf {L ns : List Nat} {w w' : World} {vs : List Value} {l : List Pt} (h : RL w ns vs l) (k : KF L w w') (hl : ∀ i, i ∈ L → i ∈ ns) : RL w' ns vs l := fun j p hj => by
  obtain ⟨v0, v1, v2, v3, h0, h1, h2, h3, hp⟩ := h j p hj
  exact ⟨v0, v1, v2, v3, h0, h1, h2, h3, hp.kf k hl⟩
theorem RL.app {ns ns2 : List Nat} {w : World} {vs : List Value} {l : List Pt} (h : RL w ns vs l) (hl : ∀ q, q ∈ ns2 → w.heap.size ≤ q ∨ q ∈ ns) : RL w ns2 vs l := fun j p hj => by
  obtain ⟨v0, v1, v2, v3, h0, h1, h2, h3, hp⟩ := h j p hj
  exact ⟨v0, v1, v2, v3, h0, h1, h2, h3, hp.app hl⟩
theorem RL.snoc {ns : List Nat} {w : World} {vs : List Value} {l : List Pt} (h : RL w ns vs l) (hl : vs.length = l.length * 4) {p : Pt} {v0 v1 v2 v3 : Value} (hp : IsP w ns p v0 v1 v2 v3) : RL w ns (vs ++ [v0, v1, v2, v3]) (l ++ [p]) := fun j q hj => by
  have hjl := (List.getElem?_eq_some_iff.1 hj).1
  rw [List.length_append, List.length_singleton] at hjl
  by_cases e : j = l.length
  · subst e
    rw [List.getElem?_append_right (Nat.le_refl _), Nat.sub_self] at hj
    simp at hj
    subst hj
    have g : ∀ i, i < 4 → (vs ++ [v0, v1, v2, v3])[l.length * 4 + i]? = [v0, v1, v2, v3][i]? := fun i hi => by
      rw [List.getElem?_append_right (by omega), show l.length * 4 + i - vs.length = i by omega]
    exact ⟨v0, v1, v2, v3, g 0 (by omega), g 1 (by omega), g 2 (by omega), g 3 (by omega), hp⟩
  · rw [List.getElem?_append_left (by omega)] at hj
    obtain ⟨u0, u1, u2, u3, h0, h1, h2, h3, hq⟩ := h j q hj
    have g : ∀ i, i < 4 → (vs ++ [v0, v1, v2, v3])[j * 4 + i]? = vs[j * 4 + i]? := fun i hi => List.getElem?_append_left (by omega)
    exact ⟨u0, u1, u2, u3, (g 0 (by omega)).trans h0, (g 1 (by omega)).trans h1, (g 2 (by omega)).trans h2, (g 3 (by omega)).trans h3, hq⟩
/-- The document's queue holds these packets. -/
structure RQ (w : World) (rq room lost : Nat) (la : Option Addr) (cap : Nat) (l : List Pt) (ns : List Nat) : Prop where
  b : Blk w rq [.int .i64 (room : Nat), .slice la l.length cap, .int .i64 (lost : Nat)]
  r : ∃ vs, RowG w 4 la l.length cap vs ∧ RL w (rq :: (blkO la ++ ns)) vs l
  ne : rq ∉ blkO la
  s : Sized l
  k : 1 ≤ room ∧ room ≤ 64 ∧ l.length ≤ room ∧ lost ≤ 1000000
theorem RQ.kf {L ns : List Nat} {w w' : World} {rq room lost : Nat} {la : Option Addr} {cap : Nat} {l : List Pt} (h : RQ w rq room lost la cap l ns) (k : KF L w w') (hL : ∀ i, i ∈ L → i ∈ ns) (h1 : rq ∉ L) (h2 : ∀ b, b ∈ blkO la → b ∉ L) : RQ w' rq room lost la cap l ns := by
  obtain ⟨vs, hr, hp⟩ := h.r
  exact ⟨k.blk h.b h1, ⟨vs, hr.kf k h2, hp.kf k (fun i hi => by simp [hL i hi])⟩, h.ne, h.s, h.k⟩
theorem RQ.bel {ns : List Nat} {w w' : World} {rq room lost : Nat} {la : Option Addr} {cap : Nat} {l : List Pt} (h : RQ w rq room lost la cap l ns) (k : Below w.heap.size w w') : RQ w' rq room lost la cap l ns :=
  h.kf (KF.of (l := []) k) (fun i hi => by simp at hi) (by simp) (fun b _ => by simp)
/-- What it leaves alone. -/
def RqP (v : Value) (rq room lost : Nat) (la : Option Addr) (l : List Pt) (ns : List Nat) (w : World) (e : Ending) (w' : World) : Prop := e = .returned v ∧ ∃ la' cap', RQ w' rq room lost la' cap' l ns ∧ KF (rq :: blkO la) w w' ∧ ∀ b, b ∈ blkO la' → b ∈ blkO la ∨ w.heap.size ≤ b
/-- Its bytes. -/
theorem RQ.slot {ns : List Nat} {w : World} {rq room lost : Nat} {la : Option Addr} {cap : Nat} {l : List Pt} (h : RQ w rq room lost la cap l ns) {j : Nat} {p : Pt} (hj : l[j]? = some p) :
    ∃ b off a c, la = some ⟨b, off, none⟩ ∧ b < w.heap.size ∧ w.cell? ⟨b, off + j * 4, none⟩ = some (.int .i64 p.x) ∧ w.cell? ⟨b, off + j * 4 + 1, none⟩ = some (.int .i64 p.t) ∧ w.cell? ⟨b, off + j * 4 + 2, none⟩ = some (.int .i64 p.C) ∧ w.cell? ⟨b, off + j * 4 + 3, none⟩ = some (.slice a p.d.length c) ∧ Byt w a p.d.length c p.d ∧ NoB (rq :: (blkO la ++ ns)) a p.d.length := by
  obtain ⟨vs, hr, hp⟩ := h.r
  have hjl := (List.getElem?_eq_some_iff.1 hj).1
  cases la with
  | none => have := (hr.nil rfl).1; omega
  | some ad =>
    obtain ⟨b, off, rfl, hb, hc, _⟩ := hr.row ad rfl
    obtain ⟨v0, v1, v2, v3, h0, h1, h2, h3, rfl, rfl, rfl, a, c, rfl, hB, hn⟩ := hp j p hj
    refine ⟨b, off, a, c, rfl, hb, hc _ _ h0, ?_, ?_, ?_, hB, hn⟩
    · rw [Nat.add_assoc]; exact hc _ _ h1
    · rw [Nat.add_assoc]; exact hc _ _ h2
    · rw [Nat.add_assoc]; exact hc _ _ h3
theorem RQ.pushed {w w4 w5 : World} {rq room lost : Nat} {la la4 : Option Addr} {cap cap4 : Nat} {l : List Pt} {ns : List Nat} {vs : List Value} {p : Pt} {a3 : Option Addr} {c3 : Nat} {v : Value} (h : RQ w rq room lost la cap l ns) (hns : ∀ q, q ∈ ns → q < w.heap.size) (hr : RowG w 4 la l.length cap vs) (hp : RL w (rq :: (blkO la ++ ns)) vs l) (hB : Below w.heap.size w w4) (hl : l.length < room) (hm : p.d.length ≤ 1492)
    (hy : Byt w4 a3 p.d.length c3 p.d) (hf : Far w.heap.size a3 p.d.length) (hR : RowG w5 4 la4 (l.length + 1) cap4 (vs ++ [.int .i64 p.x, .int .i64 p.t, .int .i64 p.C, .slice a3 p.d.length c3])) (hK : KF (blkO la) w4 w5) (h5 : ∀ b, b ∈ blkO la4 → b ∈ blkO la ∨ w4.heap.size ≤ b) :
    RqP v rq room lost la (l ++ [p]) ns w (.returned v) (w5.setCell ⟨rq, 1, none⟩ (.slice la4 (l.length + 1) cap4)) := by
  have hs := hB.size
  have hrq := h.b.l
  have hla : ∀ b, b ∈ blkO la → b < w.heap.size := fun b hb => hr.lt hb
  have hne4 : rq ∉ blkO la4 := fun e => by
    rcases h5 rq e with z | z
    · exact h.ne z
    · omega
  have hI : IsP w4 (rq :: (blkO la ++ ns)) p (.int .i64 p.x) (.int .i64 p.t) (.int .i64 p.C) (.slice a3 p.d.length c3) := ⟨rfl, rfl, rfl, a3, c3, rfl, hy, NoB.far hf (fun q hq => by
    simp only [List.mem_cons, List.mem_append] at hq
    rcases hq with rfl | hq | hq
    · exact hrq
    · exact hla q hq
    · exact hns q hq)⟩
  have hin : ∀ q, q ∈ rq :: (blkO la ++ (blkO la4 ++ ns)) → w4.heap.size ≤ q ∨ q ∈ rq :: (blkO la ++ ns) := fun q hq => by
    simp only [List.mem_cons, List.mem_append] at hq ⊢
    rcases hq with e | e | e | e
    · exact .inr (.inl e)
    · exact .inr (.inr (.inl e))
    · rcases h5 q e with z | z
      · exact .inr (.inr (.inl z))
      · exact .inl z
    · exact .inr (.inr (.inr e))
  have hp4 : RL w4 (rq :: (blkO la ++ ns)) vs l := hp.kf (KF.of (l := []) hB) (fun i hi => by simp at hi)
  have hp5 : RL w5 (rq :: (blkO la ++ (blkO la4 ++ ns))) (vs ++ [.int .i64 p.x, .int .i64 p.t, .int .i64 p.C, .slice a3 p.d.length c3]) (l ++ [p]) := ((hp4.snoc hr.len hI).app hin).kf hK (fun i hi => by simp [hi])
  have K6 : KF [rq] w5 (w5.setCell ⟨rq, 1, none⟩ (.slice la4 (l.length + 1) cap4)) := (KF.refl _ _).set (.inl (by simp)) _
  have hb5 := (hK.blk (h.b.bel hB) h.ne).set (i := 1) (by simp) (.slice la4 (l.length + 1) cap4)
  refine ⟨rfl, la4, cap4, ⟨?_, ⟨_, by rw [List.length_append, List.length_singleton]; exact hR.kf K6 (fun b hb => by simp; exact fun e => hne4 (e ▸ hb)), (hp5.kf K6 (fun i hi => by simp at hi; simp [hi])).app (fun q hq => .inr (by simp only [List.mem_cons, List.mem_append] at hq ⊢; rcases hq with e | e | e <;> simp [e]))⟩, hne4, fun q hq => ?_, ?_⟩, ?_, fun b hb => ?_⟩
  · rw [List.length_append, List.length_singleton]; exact hb5
  · rcases List.mem_append.1 hq with q1 | q1
    · exact h.s q q1
    · simp at q1; subst q1; exact hm
  · have := h.k; rw [List.length_append, List.length_singleton]; omega
  · exact ((KF.of (l := rq :: blkO la) hB).trans (hK.sub (fun i hi => by simp [hi]))).trans (K6.sub (fun i hi => by simp at hi; simp [hi]))
  · rcases h5 b hb with z | z
    · exact .inl z
    · exact .inr (by omega)
end Fp

set_option maxRecDepth 100000 in
set_option maxHeartbeats 2000000 in
theorem rq_new (room : Nat) (w : World) (h1 : 1 ≤ room) (h2 : room ≤ 64) (ns : List Nat) : Calls Try.prog 6 #[.int .i64 (room : Nat)] w fun e w' => e = .returned (.tuple #[.pointer (some ⟨w.heap.size, 0, none⟩), .int .i64 0]) ∧ RQ w' w.heap.size room 0 none 0 [] ns ∧ Below w.heap.size w w' := by
  have k1 : ¬ (room : Int) < 1 := by omega
  have k2 : ¬ (64 : Int) < (room : Int) := by omega
  have hB := (Below.refl w.heap.size w).alloc (Nat.le_refl _) (.cells #[.int .i64 (room : Nat), .slice none 0 0, .int .i64 0] 40)
  have hb : RowKit.Hid (Blk (w.alloc (.cells #[.int .i64 (room : Nat), .slice none 0 0, .int .i64 0] 40)) w.heap.size [.int .i64 (room : Nat), .slice none 0 0, .int .i64 0]) := Lib.hid
    ⟨fun i x hx => by
      have hi := (List.getElem?_eq_some_iff.1 hx).1
      simp at hi
      have : i = 0 ∨ i = 1 ∨ i = 2 := by omega
      rcases this with rfl | rfl | rfl <;> (simp at hx; subst hx; go_simp), fun o => by go_simp, by simp⟩
  go_enter Try.func6, Try.ntmps6
  go_wp2_with fail
  go_ret2
  exact ⟨rfl, ⟨hb.out, ⟨[], RowG.emp _ 4, fun j p hj => by simp at hj⟩, by simp [blkO], fun p hp => by simp at hp, ⟨h1, h2, Nat.zero_le _, Nat.zero_le _⟩⟩, hB⟩
set_option maxRecDepth 100000 in
set_option maxHeartbeats 2000000 in
theorem rq_new_bad (room : Int) (w : World) (h : room < 1 ∨ 64 < room) : Calls Try.prog 6 #[.int .i64 room] w fun e w' => e = .returned (.tuple #[.pointer none, .int .i64 2]) ∧ w' = w := by
  by_cases h1 : room < 1
  · clear h
    go_enter Try.func6, Try.ntmps6
    go_wp2_with fail
    go_ret2
    exact ⟨rfl, rfl⟩
  · have h2 : 64 < room := by omega
    clear h
    go_enter Try.func6, Try.ntmps6
    go_wp2_with fail
    go_ret2
    exact ⟨rfl, rfl⟩

set_option maxRecDepth 100000 in
set_option maxHeartbeats 2000000 in
theorem rq_push_big (rq : Nat) (x t C : Int) (a : Option Addr) (m cm : Nat) (w : World) (hm : 1492 < m) (hm2 : m ≤ 1000000) :
    Calls Try.prog 15 #[.pointer (some ⟨rq, 0, none⟩), .agg #[.int .i64 x, .int .i64 t, .int .i64 C, .slice a m cm]] w fun e w' => e = .returned (.int .i64 2) ∧ Below w.heap.size w w' := by
  have k1 : (1500 : Int) < 8 + (m : Int) := by omega
  have k2 : (m : Int) ≤ 1000000 := by omega
  have hB := (Below.refl w.heap.size w).alloc (Nat.le_refl _) (.cells #[.int .i64 x, .int .i64 t, .int .i64 C, .slice a m cm] 25)
  go_enter Try.func15, Try.ntmps15
  go_wp2_with fail
  exact bodyPost_ret (v := .int .i64 2) (by simp [results, Try.results15, go_sem]) rfl ⟨rfl, hB⟩

set_option maxRecDepth 100000 in
set_option maxHeartbeats 4000000 in
theorem rq_push_full (w : World) (rq room lost : Nat) (la : Option Addr) (cap : Nat) (l : List Pt) (ns : List Nat) (h : RQ w rq room lost la cap l ns) (x t C : Int) (a : Option Addr) (m cm : Nat) (hm : m ≤ 1492) (hl : l.length = room) (hd : lost < 1000000) :
    Calls Try.prog 15 #[.pointer (some ⟨rq, 0, none⟩), .agg #[.int .i64 x, .int .i64 t, .int .i64 C, .slice a m cm]] w (RqP (.int .i64 100) rq room (lost + 1) la l ns w) := by
  have k1 : ¬ (1500 : Int) < 8 + (m : Int) := by omega
  have k2 : (m : Int) ≤ 1492 := by omega
  have k3 : (lost : Int) < 1000000 := by omega
  have hB := (Below.refl w.heap.size w).alloc (Nat.le_refl _) (.cells #[.int .i64 x, .int .i64 t, .int .i64 C, .slice a m cm] 25)
  have hQ := h.bel hB
  have c0 := hQ.b.c 0 _ rfl
  have c1 := hQ.b.c 1 _ rfl
  have c2 := hQ.b.c 2 _ rfl
  have cf := hQ.b.f
  rw [hl] at c1
  replace hQ := Lib.hid hQ
  replace hB := Lib.hid hB
  have hne := Lib.hid h.ne
  have hk := Lib.hid h.k
  clear h
  go_enter Try.func15, Try.ntmps15
  go_wp2_with fail
  go_big_quiet (fail)
  have hF : ∀ u, Below (w.alloc (.cells #[.int .i64 x, .int .i64 t, .int .i64 C, .slice a m cm] 25)).heap.size (w.alloc (.cells #[.int .i64 x, .int .i64 t, .int .i64 C, .slice a m cm] 25)) u → RqP (.int .i64 100) rq room (lost + 1) la l ns w (.returned (.int .i64 100)) (u.setCell ⟨rq, 2, none⟩ (.int .i64 ((lost : Int) + 1))) := fun u hu => by
    have hQu := hQ.out.bel hu
    obtain ⟨vs, hr, hp⟩ := hQu.r
    have K : KF [rq] u (u.setCell ⟨rq, 2, none⟩ (.int .i64 ((lost : Int) + 1))) := (KF.refl _ _).set (.inl (by simp)) _
    exact ⟨rfl, la, cap, ⟨hQu.b.set (i := 2) (by simp) _, ⟨vs, hr.kf K (fun b hb => by have := hne.out; simp; exact fun e => this (e ▸ hb)), hp.kf K (fun i hi => by simp at hi; simp [hi])⟩, hne.out, hQu.s, by have := hk.out; omega⟩, (KF.of (l := rq :: blkO la) (bNext hB.out hu (Nat.le_refl _))).trans (K.sub (fun i hi => by simp at hi; simp [hi])), fun b hb => .inl hb⟩
  replace hF := Lib.hid hF
  go_wp2_with fail
  exact bodyPost_ret (v := .int .i64 100) (by simp [results, Try.results15, go_sem]) rfl (hF.out _ (bDrew (Below.refl _ _) _))

set_option maxRecDepth 100000 in
set_option maxHeartbeats 8000000 in
theorem rq_push_ok (w : World) (rq room lost : Nat) (la : Option Addr) (cap : Nat) (l : List Pt) (ns : List Nat) (h : RQ w rq room lost la cap l ns) (hns : ∀ q, q ∈ ns → q < w.heap.size) (p : Pt) (a : Option Addr) (cm : Nat) (hb : Byt w a p.d.length cm p.d) (hm : p.d.length ≤ 1492) (hl : l.length < room) :
    Calls Try.prog 15 #[.pointer (some ⟨rq, 0, none⟩), .agg #[.int .i64 p.x, .int .i64 p.t, .int .i64 p.C, .slice a p.d.length cm]] w (RqP (.int .i64 0) rq room lost la (l ++ [p]) ns w) := by
  obtain ⟨x, t, C, d⟩ := p
  obtain ⟨m, hmm⟩ : ∃ m, d.length = m := ⟨_, rfl⟩
  simp only at hb hm ⊢
  rw [hmm] at hb hm ⊢
  have k1 : ¬ (1500 : Int) < 8 + (m : Int) := by omega
  have k2 : (m : Int) ≤ 1492 := by omega
  have hB := (Below.refl w.heap.size w).alloc (Nat.le_refl _) (.cells #[.int .i64 x, .int .i64 t, .int .i64 C, .slice a m cm] 25)
  have hQ := h.bel hB
  have c0 := hQ.b.c 0 _ rfl
  have c1 := hQ.b.c 1 _ rfl
  have p0 : (w.alloc (.cells #[.int .i64 x, .int .i64 t, .int .i64 C, .slice a m cm] 25)).cell? ⟨w.heap.size, 0, none⟩ = some (.int .i64 x) := by go_simp
  have p1 : (w.alloc (.cells #[.int .i64 x, .int .i64 t, .int .i64 C, .slice a m cm] 25)).cell? ⟨w.heap.size, 1, none⟩ = some (.int .i64 t) := by go_simp
  have p2 : (w.alloc (.cells #[.int .i64 x, .int .i64 t, .int .i64 C, .slice a m cm] 25)).cell? ⟨w.heap.size, 2, none⟩ = some (.int .i64 C) := by go_simp
  have p3 : (w.alloc (.cells #[.int .i64 x, .int .i64 t, .int .i64 C, .slice a m cm] 25)).cell? ⟨w.heap.size, 3, none⟩ = some (.slice a m cm) := by go_simp
  have hcp : ∀ u, Below (w.alloc (.cells #[.int .i64 x, .int .i64 t, .int .i64 C, .slice a m cm] 25)).heap.size (w.alloc (.cells #[.int .i64 x, .int .i64 t, .int .i64 C, .slice a m cm] 25)) u → Calls Try.prog 25 #[.agg #[.int .i64 x, .int .i64 t, .int .i64 C, .slice a m cm]] u (CopR x t C m d u) := fun u hu => rcopyF_c x t C a m cm d u ((hb.bel hB).bel hu) (by omega)
  replace hcp := Lib.hid hcp
  have hnl : (l.length : Int) < (room : Int) := by omega
  have hrq : rq < w.heap.size := h.b.l
  have hla : ∀ b, b ∈ blkO la → b < w.heap.size := fun b hbb => by obtain ⟨vs, hr, _⟩ := h.r; exact hr.lt hbb
  obtain ⟨i0, hi0, hz0, hz1, hz2⟩ := info_parts info_packet
  have hne := Lib.hid h.ne
  have hk := Lib.hid h.k
  have hsz := Lib.hid h.s
  have hQH := Lib.hid hQ
  have hBH := Lib.hid hB
  replace hns := Lib.hid hns
  have hll : l.length ≤ 64 := by have := h.k; omega
  replace hla := Lib.hid hla
  have hdH := Lib.hid hmm
  obtain ⟨n, hn⟩ : ∃ n, RowKit.Hid (l.length = n) := ⟨_, Lib.hid rfl⟩
  rw [hn.out] at c1 hnl hll hl
  have hln : ¬ (room : Int) ≤ (n : Int) := by omega
  obtain ⟨vs, hr, hp⟩ := h.r
  replace hp := Lib.hid hp
  replace hr := Lib.hid hr
  have hH := Lib.hid h
  clear h hb hQ hB hmm
  go_enter Try.func15, Try.ntmps15
  go_wp2_with fail
  go_big_quiet (fail)
  go_upto_region 6 with fail
  have hB1 := bDrew (Below.refl (w.alloc (.cells #[.int .i64 x, .int .i64 t, .int .i64 C, .slice a m cm] 25)).heap.size (w.alloc (.cells #[.int .i64 x, .int .i64 t, .int .i64 C, .slice a m cm] 25))) nq
  have hsz1 := hB1.size
  rw [World.size_alloc] at hsz1
  have b1 := cellB hB1 c1
  have d0 := cellB hB1 p0
  have d1 := cellB hB1 p1
  have d2 := cellB hB1 p2
  have d3 := cellB hB1 p3
  replace hB1 := Lib.hid hB1
  clear c0 c1 p0 p1 p2 p3
  generalize (w.alloc (.cells #[.int .i64 x, .int .i64 t, .int .i64 C, .slice a m cm] 25)).drewN nq = W at hB1 hsz1 b1 d0 d1 d2 d3 ⊢
  refine wp_region_noPanic ?_
  refine Stg.wp_region_L [8, 11] (Bs.SB W) (by kernel_rfl) (fun _ => (Below.refl _ _).drew) (fun hHeld => ?_)
  refine Stg.wpAnyL_start (n' := 12) (l' := #[false, false, false, false, false, false, false, false, false, false, false, false]) (by kernel_rfl) (by kernel_rfl) ?_
  refine Stg.wpAnyL_free (i := 0) (v := ?_) 0 rfl (by kernel_rfl) (by kernel_rfl) (by kernel_rfl) (by kernel_rfl) (by kernel_rfl) (fun _ _ _ h => h) (Or.inl ⟨by kernel_rfl, ?_⟩) (by assumption) ?_
  rotate_left
  · intro u _
    try simp only [List.getElem_toArray, List.getElem_cons_succ, List.getElem_cons_zero]
    go_simp
    try with_reducible rfl
  try simp only [Act.put, List.setIfInBounds_toArray, List.set_cons_zero, List.set_cons_succ]
  refine Stg.wpAnyL_free (i := 1) (v := ?_) 0 rfl (by kernel_rfl) (by kernel_rfl) (by kernel_rfl) (by kernel_rfl) (by kernel_rfl) (fun _ _ _ h => h) (Or.inl ⟨by kernel_rfl, ?_⟩) (by assumption) ?_
  rotate_left
  · intro u _
    try simp only [List.getElem_toArray, List.getElem_cons_succ, List.getElem_cons_zero]
    go_simp
    try with_reducible rfl
  try simp only [Act.put, List.setIfInBounds_toArray, List.set_cons_zero, List.set_cons_succ]
  refine Stg.wpAnyL_free (i := 2) (v := ?_) 0 rfl (by kernel_rfl) (by kernel_rfl) (by kernel_rfl) (by kernel_rfl) (by kernel_rfl) (fun _ _ _ h => h) (Or.inl ⟨by kernel_rfl, ?_⟩) (by assumption) ?_
  rotate_left
  · intro u _
    try simp only [List.getElem_toArray, List.getElem_cons_succ, List.getElem_cons_zero]
    go_simp
    try with_reducible rfl
  try simp only [Act.put, List.setIfInBounds_toArray, List.set_cons_zero, List.set_cons_succ]
  refine Stg.wpAnyL_start (n' := 9) (l' := #[true, true, true, false, false, false, false, false, false, false, false, false]) (by kernel_rfl) (by kernel_rfl) ?_
  refine Stg.wpAnyL_free (i := 3) (v := ?_) 0 rfl (by kernel_rfl) (by kernel_rfl) (by kernel_rfl) (by kernel_rfl) (by kernel_rfl) (fun _ _ _ h => h) (Or.inl ⟨by kernel_rfl, ?_⟩) (by assumption) ?_
  rotate_left
  · intro u _
    try simp only [List.getElem_toArray, List.getElem_cons_succ, List.getElem_cons_zero]
    go_simp
    try with_reducible rfl
  try simp only [Act.put, List.setIfInBounds_toArray, List.set_cons_zero, List.set_cons_succ]
  refine Stg.wpAnyL_take (i := 4) (v := ?_) [8, 9, 10, 11] 0 rfl (by kernel_rfl) (by kernel_rfl) (by kernel_rfl) (by kernel_rfl) (by kernel_rfl) (fun _ _ _ h => h) (Or.inl ⟨by kernel_rfl, ?_⟩) (by assumption) ?_
  rotate_left
  · intro u hSu
    skip
    have sB := hSu rfl
    have y0 := cellB sB b1
    have y1 := cellB sB d0
    have y2 := cellB sB d1
    have y3 := cellB sB d2
    have y4 := cellB sB d3
    try simp only [List.getElem_toArray, List.getElem_cons_succ, List.getElem_cons_zero]
    go_simp
    try with_reducible rfl
  try simp only [Act.put, List.setIfInBounds_toArray, List.set_cons_zero, List.set_cons_succ]
  refine Stg.wpAnyL_take (i := 5) (v := ?_) [6, 7, 8, 9, 10, 11] 0 rfl (by kernel_rfl) (by kernel_rfl) (by kernel_rfl) (by kernel_rfl) (by kernel_rfl) (fun _ _ _ h => h) (Or.inl ⟨by kernel_rfl, ?_⟩) (by assumption) ?_
  rotate_left
  · intro u hSu
    skip
    have sB := hSu rfl
    have y0 := cellB sB b1
    have y1 := cellB sB d0
    have y2 := cellB sB d1
    have y3 := cellB sB d2
    have y4 := cellB sB d3
    try simp only [List.getElem_toArray, List.getElem_cons_succ, List.getElem_cons_zero]
    go_simp
    try with_reducible rfl
  try simp only [Act.put, List.setIfInBounds_toArray, List.set_cons_zero, List.set_cons_succ]
  refine Stg.wpAnyL_start (n' := 6) (l' := #[true, true, true, true, true, true, false, false, false, false, false, false]) (by kernel_rfl) (by kernel_rfl) ?_
  refine Stg.wpAnyL_one (i := 6) 0 rfl (by kernel_rfl) (by kernel_rfl) (fun K hK => ?_)
  try simp only [List.getElem_toArray, List.getElem_cons_succ, List.getElem_cons_zero]
  go_simp
  refine (hcp.out _ (bNext hB1.out (hHeld rfl) (Nat.le_refl _))).mono ?_
  rintro e w3 ⟨a3, c3, rfl, ⟨hy3, hf3⟩, hb1⟩
  replace hy3 := Lib.hid hy3
  replace hf3 := Lib.hid hf3
  have hsu := (hHeld rfl).size
  refine hK.out _ _ ?_ (fun hHeld1 => ?_)
  · exact fun _ => bNext (hHeld rfl) hb1 (Nat.le_refl _)
  clear hK K
  try simp only [Act.put, List.setIfInBounds_toArray, List.set_cons_zero, List.set_cons_succ]
  refine Stg.wpAnyL_one (i := 7) 0 rfl (by kernel_rfl) (by kernel_rfl) (fun K hK => ?_)
  try simp only [List.getElem_toArray, List.getElem_cons_succ, List.getElem_cons_zero]
  go_simp
  refine hK.out _ _ ?_ (fun hHeld2 => ?_)
  · exact fun _ => bNext (hHeld1 rfl) ((Below.refl _ _).alloc (Nat.le_refl _) _) (Nat.le_refl _)
  clear hK K
  try simp only [Act.put, List.setIfInBounds_toArray, List.set_cons_zero, List.set_cons_succ]
  refine Stg.wpAnyL_one (i := 8) 1 rfl (by kernel_rfl) (by kernel_rfl) (fun K hK => ?_)
  try simp only [List.getElem_toArray, List.getElem_cons_succ, List.getElem_cons_zero]
  rw [if_pos (by kernel_rfl)]
  have hB4 := Lib.hid (bNext hBH.out (bNext hB1.out (hHeld2 rfl) (Nat.le_refl _)) (Nat.le_refl _))
  refine wp_app_row (.tmp 31) (.tmp 34) 38 25 rfl rfl i0 _ 4 48 (by rfl) hi0 hz0 hz1 hz2 (by rfl) (by omega) (by omega) la n cap vs [.int .i64 x, .int .i64 t, .int .i64 C, .slice a3 m c3] (by kernel_rfl) (by have := hr.out.bel hB4.out; rw [hn.out] at this; exact this) (q := w3.heap.size) (c := 1) (by kernel_rfl) rfl (fun j u hu => (blkN_new w3 [.int .i64 x, .int .i64 t, .int .i64 C, .slice a3 m c3] 25).c j u hu) (by intro u hu; simp at hu; rcases hu with rfl | rfl | rfl | rfl <;> rfl) (by omega) ?_
  intro la4 cap4 w5 hR5 hK5 hf5
  have hbx := hK5.blk (hH.out.b.bel hB4.out) hne.out
  have z1 := hbx.c 1 _ rfl
  have zf := hbx.f
  rw [hn.out] at z1
  replace hbx := Lib.hid hbx
  replace hR5 := Lib.hid hR5
  replace hK5 := Lib.hid hK5
  replace hf5 := Lib.hid hf5
  refine hK.out _ _ ?_ (fun hHeld3 => ?_)
  · exact fun h => absurd h (by decide)
  clear hK K
  try simp only [Act.put, List.setIfInBounds_toArray, List.set_cons_zero, List.set_cons_succ]
  refine Stg.wpAnyL_start (n' := 3) (l' := #[true, true, true, true, true, true, true, true, true, false, false, false]) (by kernel_rfl) (by kernel_rfl) ?_
  refine Stg.wpAnyL_free (i := 9) (v := ?_) 1 rfl (by kernel_rfl) (by kernel_rfl) (by kernel_rfl) (by kernel_rfl) (by kernel_rfl) (fun _ _ _ h => h) (Or.inl ⟨by kernel_rfl, ?_⟩) (by assumption) ?_
  rotate_left
  · intro u _
    try simp only [List.getElem_toArray, List.getElem_cons_succ, List.getElem_cons_zero]
    go_simp
    try with_reducible rfl
  try simp only [Act.put, List.setIfInBounds_toArray, List.set_cons_zero, List.set_cons_succ]
  refine Stg.wpAnyL_free (i := 10) (v := ?_) 1 rfl (by kernel_rfl) (by kernel_rfl) (by kernel_rfl) (by kernel_rfl) (by kernel_rfl) (fun _ _ _ h => h) (Or.inl ⟨by kernel_rfl, ?_⟩) (by assumption) ?_
  rotate_left
  · intro u _
    try simp only [List.getElem_toArray, List.getElem_cons_succ, List.getElem_cons_zero]
    go_simp
    try with_reducible rfl
  try simp only [Act.put, List.setIfInBounds_toArray, List.set_cons_zero, List.set_cons_succ]
  refine Stg.wpAnyL_one (i := 11) 2 rfl (by kernel_rfl) (by kernel_rfl) (fun K hK => ?_)
  try simp only [List.getElem_toArray, List.getElem_cons_succ, List.getElem_cons_zero]
  go_simp
  refine hK.out _ _ ?_ (fun hHeld4 => ?_)
  · exact fun h => absurd h (by decide)
  clear hK K
  try simp only [Act.put, List.setIfInBounds_toArray, List.set_cons_zero, List.set_cons_succ]
  refine Stg.wpAnyL_done (by kernel_rfl) ?_ _
  try simp only [List.getElem_toArray, List.getElem_cons_succ, List.getElem_cons_zero]
  try simp only [Act.put, List.setIfInBounds_toArray, List.set_cons_zero, List.set_cons_succ]
  refine NoPanic.normal ?_
  have hs4 := hB4.out.size
  have hF : RqP (.int .i64 0) rq room lost la (l ++ [⟨x, t, C, d⟩]) ns w (.returned (.int .i64 0)) (w5.setCell ⟨rq, 1, none⟩ (.slice la4 (n + 1) cap4)) := by
    rw [← hn.out]
    exact RQ.pushed (p := ⟨x, t, C, d⟩) hH.out hns.out hr.out hp.out hB4.out (by rw [hn.out]; exact hl) (by show d.length ≤ 1492; rw [hdH.out]; exact hm) (by show Byt _ a3 d.length c3 d; rw [hdH.out]; exact hy3.out.bel ((Below.refl _ _).alloc (Nat.le_refl _) _)) (by show Far w.heap.size a3 d.length; rw [hdH.out]; exact hf3.out.mono (by omega)) (by rw [hn.out]; show RowG w5 4 la4 (n + 1) cap4 (vs ++ [.int .i64 x, .int .i64 t, .int .i64 C, .slice a3 d.length c3]); rw [hdH.out]; exact hR5.out) hK5.out hf5.out
  replace hF := Lib.hid hF
  go_wp2_with fail
  exact bodyPost_ret (v := .int .i64 0) (by simp [results, Try.results15, go_sem]) rfl hF.out
end Go.Proofs.Ytndlldlanjhanaa
