/- Queues of packets with what they hold: the document's Head, Pop, Bytes. -/
import Derived.Test.YtndlldlanjhanaaFp4
import Derived.Laws.EntriesVeiled
namespace Go.Proofs.Ytndlldlanjhanaa
open Go.ChangeShapes Go.WideShapes Go.ChangeAt Go.RowKit
set_option linter.unusedVariables false
set_option linter.unusedSimpArgs false
open BigFrame By Fq Bs Fp
namespace Fp
theorem RQ.ns {ns ns2 : List Nat} {w : World} {rq room lost : Nat} {la : Option Addr} {cap : Nat} {l : List Pt} (h : RQ w rq room lost la cap l ns) (hl : ∀ q, q ∈ ns2 → w.heap.size ≤ q ∨ q ∈ ns) : RQ w rq room lost la cap l ns2 := by
  obtain ⟨vs, hr, hp⟩ := h.r
  exact ⟨h.b, ⟨vs, hr, hp.app (fun q hq => by
    simp only [List.mem_cons, List.mem_append] at hq ⊢
    rcases hq with e | e | e
    · exact .inr (.inl e)
    · exact .inr (.inr (.inl e))
    · rcases hl q e with z | z
      · exact .inl z
      · exact .inr (.inr (.inr z)))⟩, h.ne, h.s, h.k⟩
theorem RQ.popped {W : World} {rq room lost b off cap : Nat} {p : Pt} {l : List Pt} {ns : List Nat} (h : RQ W rq room lost (some ⟨b, off, none⟩) cap (p :: l) ns) (off' cap' : Nat) (hc : (cap = 1 ∧ off' = off ∧ cap' = 0) ∨ (¬ cap = 1 ∧ off' = off + 4 ∧ cap' = cap - 1)) :
    RQ (W.setCell ⟨rq, 1, none⟩ (.slice (some ⟨b, off', none⟩) l.length cap')) rq room lost (some ⟨b, off', none⟩) cap' l ns ∧ KF [rq] W (W.setCell ⟨rq, 1, none⟩ (.slice (some ⟨b, off', none⟩) l.length cap')) := by
  have K : KF [rq] W (W.setCell ⟨rq, 1, none⟩ (.slice (some ⟨b, off', none⟩) l.length cap')) := (KF.refl _ _).set (.inl (by simp)) _
  obtain ⟨vs, hr, hp⟩ := h.r
  obtain ⟨b2, off2, e, hb, c1, c2, c3⟩ := hr.row _ rfl
  cases e
  have hne := h.ne
  have hlen := hr.len
  have hle := hr.le
  have hmx := hr.mx
  simp only [List.length_cons] at hlen hle
  have hk := h.k
  simp only [List.length_cons] at hk
  refine ⟨⟨h.b.set (i := 1) (by simp) _, ⟨vs.drop 4, RowG.kf (l := [rq]) ⟨by rw [List.length_drop, hlen]; omega, by omega, by omega, fun e => by (cases e), fun ad e => ?_⟩ K (fun q hq => ?_), fun j q hj => ?_⟩, ?_, fun q hq => h.s q (List.mem_cons_of_mem _ hq), by omega⟩, K⟩
  · cases e
    refine ⟨b, off', rfl, hb, fun j u hu => ?_, fun j hj => ?_, c3⟩
    · rw [List.getElem?_drop] at hu
      have hj := (List.getElem?_eq_some_iff.1 hu).1
      have := c1 _ _ hu
      rcases hc with ⟨h1, h2, h3⟩ | ⟨h1, h2, h3⟩
      · omega
      · rw [h2, Nat.add_assoc]; exact this
    · rcases hc with ⟨h1, h2, h3⟩ | ⟨h1, h2, h3⟩
      · omega
      · rw [h2, Nat.add_assoc]; exact c2 _ (by omega)
  · simp [blkO] at hq hne ⊢
    omega
  · obtain ⟨v0, v1, v2, v3, g0, g1, g2, g3, hq⟩ := hp (j + 1) q hj
    refine ⟨v0, v1, v2, v3, ?_, ?_, ?_, ?_, hq.kf K (fun i hi => by simp at hi; simp [hi])⟩
    · rw [List.getElem?_drop, show 4 + j * 4 = (j + 1) * 4 by omega]; exact g0
    · rw [List.getElem?_drop, show 4 + (j * 4 + 1) = (j + 1) * 4 + 1 by omega]; exact g1
    · rw [List.getElem?_drop, show 4 + (j * 4 + 2) = (j + 1) * 4 + 2 by omega]; exact g2
    · rw [List.getElem?_drop, show 4 + (j * 4 + 3) = (j + 1) * 4 + 3 by omega]; exact g3
  · simpa [blkO] using hne
def RPopQ (rq room lost : Nat) (la : Option Addr) (p : Pt) (l : List Pt) (ns : List Nat) (w : World) (e : Ending) (w' : World) : Prop := (∃ v, e = .returned (.tuple #[v, .int .i64 0]) ∧ OutP p v w' w.heap.size) ∧ ∃ la' cap', RQ w' rq room lost la' cap' l ns ∧ KF (rq :: blkO la) w w' ∧ ∀ b, b ∈ blkO la' → b ∈ blkO la
/-- How the document's Pop ends. -/
theorem RQ.popEnd {w W : World} {rq room lost b off cap : Nat} {x t C : Int} {d : List Nat} {l : List Pt} {ns : List Nat} {a3 : Option Addr} {m c3 : Nat} (h : RQ w rq room lost (some ⟨b, off, none⟩) cap (⟨x, t, C, d⟩ :: l) ns) (hB : Below w.heap.size w W) (hW : w.heap.size < W.heap.size) (hm : d.length = m) (hy : Byt W a3 m c3 d) (hf : Far (w.heap.size + 1) a3 m) (off' cap' : Nat) (hc : (cap = 1 ∧ off' = off ∧ cap' = 0) ∨ (¬ cap = 1 ∧ off' = off + 4 ∧ cap' = cap - 1)) :
    RPopQ rq room lost (some ⟨b, off, none⟩) ⟨x, t, C, d⟩ l ns w (.returned (.tuple #[.agg #[.int .i64 x, .int .i64 t, .int .i64 C, .slice a3 m c3], .int .i64 0]))
      (((((W.setCell ⟨rq, 1, none⟩ (.slice (some ⟨b, off', none⟩) l.length cap')).setCell ⟨w.heap.size, 0, none⟩ (.int .i64 x)).setCell ⟨w.heap.size, 1, none⟩ (.int .i64 t)).setCell ⟨w.heap.size, 2, none⟩ (.int .i64 C)).setCell ⟨w.heap.size, 3, none⟩ (.slice a3 m c3)) := by
  have hrq := h.b.l
  have hb : b < w.heap.size := by obtain ⟨vs, hr, _⟩ := h.r; exact hr.lt (by simp [blkO])
  have h2 := (h.ns (ns2 := w.heap.size :: ns) (fun q hq => by simp at hq; rcases hq with e | e; exact .inl (by omega); exact .inr e)).kf (KF.of (l := []) hB) (fun i hi => by simp at hi) (by simp) (fun b _ => by simp)
  obtain ⟨h3, K3⟩ := h2.popped off' cap' hc
  have K4 : KF [w.heap.size] (W.setCell ⟨rq, 1, none⟩ (.slice (some ⟨b, off', none⟩) l.length cap')) (((((W.setCell ⟨rq, 1, none⟩ (.slice (some ⟨b, off', none⟩) l.length cap')).setCell ⟨w.heap.size, 0, none⟩ (.int .i64 x)).setCell ⟨w.heap.size, 1, none⟩ (.int .i64 t)).setCell ⟨w.heap.size, 2, none⟩ (.int .i64 C)).setCell ⟨w.heap.size, 3, none⟩ (.slice a3 m c3)) :=
    ((((KF.refl _ _).set (.inl (by simp)) _).set (.inl (by simp)) _).set (.inl (by simp)) _).set (.inl (by simp)) _
  have h4 := h3.kf K4 (fun i hi => by simp at hi; simp [hi]) (by simp; omega) (fun q hq => by simp [blkO] at hq; simp; omega)
  refine ⟨⟨_, rfl, a3, c3, by rw [show (Pt.mk x t C d).d.length = m from hm], ?_, ?_⟩, _, _, h4.ns (fun q hq => .inr (by simp [hq])), ?_, fun q hq => by simpa [blkO] using hq⟩
  · rw [show (Pt.mk x t C d).d.length = m from hm]
    exact ((((hy.setFar hf (by omega)).setFar hf (by omega)).setFar hf (by omega)).setFar hf (by omega)).setFar hf (by omega)
  · rw [show (Pt.mk x t C d).d.length = m from hm]
    exact hf.mono (by omega)
  · have k1 := (KF.of (l := rq :: blkO (some ⟨b, off, none⟩)) hB).trans (K3.sub (fun i hi => by simp at hi; simp [hi]))
    exact ((((k1.set (.inr (Nat.le_refl _)) _).set (.inr (Nat.le_refl _)) _).set (.inr (Nat.le_refl _)) _).set (.inr (Nat.le_refl _)) _)
end Fp

set_option maxRecDepth 100000 in
set_option maxHeartbeats 4000000 in
theorem rq_head_none (w : World) (rq room lost : Nat) (la : Option Addr) (cap : Nat) (ns : List Nat) (h : RQ w rq room lost la cap [] ns) :
    Calls Try.prog 19 #[.pointer (some ⟨rq, 0, none⟩)] w fun e w' => e = .returned (.tuple #[.agg #[.int .i64 0, .int .i64 0, .int .i64 0, .slice none 0 0], .bool false]) ∧ Below w.heap.size w w' := by
  have hB := (Below.refl w.heap.size w).alloc (Nat.le_refl _) (.cells #[.int .i64 0, .int .i64 0, .int .i64 0, .slice none 0 0] 25)
  have c1 := (h.bel hB).b.c 1 _ rfl
  have hB4 := Pk.below4 hB (Nat.le_refl _) (.int .i64 0) (.int .i64 0) (.int .i64 0) (.slice none 0 0)
  simp only [List.length_nil] at c1
  clear h
  go_enter Try.func19, Try.ntmps19
  go_wp2_with fail
  exact bodyPost_ret (v := .tuple #[.agg #[.int .i64 0, .int .i64 0, .int .i64 0, .slice none 0 0], .bool false]) (by simp [results, Try.results19, go_sem]) rfl ⟨rfl, hB⟩

set_option maxRecDepth 100000 in
set_option maxHeartbeats 4000000 in
theorem rq_head_ok (w : World) (rq room lost : Nat) (la : Option Addr) (cap : Nat) (p : Pt) (l : List Pt) (ns : List Nat) (h : RQ w rq room lost la cap (p :: l) ns) :
    Calls Try.prog 19 #[.pointer (some ⟨rq, 0, none⟩)] w (HeadQ p w) := by
  have hB := (Below.refl w.heap.size w).alloc (Nat.le_refl _) (.cells #[.int .i64 0, .int .i64 0, .int .i64 0, .slice none 0 0] 25)
  have hQ := h.bel hB
  have c1 := hQ.b.c 1 _ rfl
  have hm := h.s p (List.mem_cons_self ..)
  obtain ⟨b, off, a, c, rfl, hb, s0, s1, s2, s3, hy, _⟩ := hQ.slot (j := 0) (p := p) rfl
  rw [Nat.zero_mul, Nat.add_zero] at s0 s1 s2 s3
  obtain ⟨x, t, C, d⟩ := p
  obtain ⟨m, hmm⟩ : ∃ m, d.length = m := ⟨_, rfl⟩
  simp only at hm s0 s1 s2 s3 hy
  rw [hmm] at hm s3 hy
  obtain ⟨n, hn⟩ : ∃ n, RowKit.Hid (l.length = n) := ⟨_, Lib.hid rfl⟩
  simp only [List.length_cons] at c1
  rw [hn.out] at c1
  have hcp := Lib.hid (rcopyF_c x t C a m c d _ hy (by omega))
  have hlz : ¬ ((n : Int) + 1 = 0) := by omega
  have hlz2 : (0 : Int) < (n : Int) + 1 := by omega
  replace hmm := Lib.hid hmm
  clear h hQ hy
  go_enter Try.func19, Try.ntmps19
  go_wp2_with fail
  refine hcp.out.mono ?_
  rintro e w3 ⟨a3, c3, rfl, ⟨hy3, hf3⟩, hb3⟩
  have hs3 := hf3
  rw [World.size_alloc] at hf3
  have hB3 := bNext hB hb3 (Nat.le_refl _)
  have y0 := cellB hb3 (show (w.alloc (.cells #[.int .i64 0, .int .i64 0, .int .i64 0, .slice none 0 0] 25)).cell? ⟨w.heap.size, 0, none⟩ = some (.int .i64 0) by go_simp)
  have y1 := cellB hb3 (show (w.alloc (.cells #[.int .i64 0, .int .i64 0, .int .i64 0, .slice none 0 0] 25)).cell? ⟨w.heap.size, 1, none⟩ = some (.int .i64 0) by go_simp)
  have y2 := cellB hb3 (show (w.alloc (.cells #[.int .i64 0, .int .i64 0, .int .i64 0, .slice none 0 0] 25)).cell? ⟨w.heap.size, 2, none⟩ = some (.int .i64 0) by go_simp)
  have y3 := cellB hb3 (show (w.alloc (.cells #[.int .i64 0, .int .i64 0, .int .i64 0, .slice none 0 0] 25)).cell? ⟨w.heap.size, 3, none⟩ = some (.slice none 0 0) by go_simp)
  have yf : ∀ o, w3.frozen? ⟨w.heap.size, o, none⟩ = false := fun o => (hb3.frozen (p := ⟨w.heap.size, o, none⟩) (by simp)).trans (by go_simp)
  obtain ⟨z0, z1, z2, z3⟩ := Pk.set4 (.int .i64 x) (.int .i64 t) (.int .i64 C) (.slice a3 m c3) y0 y1 y2 y3
  have hB4 := Pk.below4 hB3 (Nat.le_refl _) (.int .i64 x) (.int .i64 t) (.int .i64 C) (.slice a3 m c3)
  have hyF := Lib.hid ((((hy3.setFar hf3 (show w.heap.size < w.heap.size + 1 by omega) (o := 0) (v := .int .i64 x)).setFar hf3 (show w.heap.size < w.heap.size + 1 by omega) (o := 1) (v := .int .i64 t)).setFar hf3 (show w.heap.size < w.heap.size + 1 by omega) (o := 2) (v := .int .i64 C)).setFar hf3 (show w.heap.size < w.heap.size + 1 by omega) (o := 3) (v := .slice a3 m c3))
  have hfF := Lib.hid (hf3.mono (show w.heap.size ≤ w.heap.size + 1 by omega))
  replace hB4 := Lib.hid hB4
  clear hy3 hf3 hs3 hcp hb3 hB3
  go_wp2_with fail
  exact bodyPost_ret (v := .tuple #[.agg #[.int .i64 x, .int .i64 t, .int .i64 C, .slice a3 m c3], .bool true]) (by simp [results, Try.results19, go_sem, z0, z1, z2, z3]) rfl ⟨⟨_, rfl, a3, c3, by rw [show (Pt.mk x t C d).d.length = m from hmm.out], by rw [show (Pt.mk x t C d).d.length = m from hmm.out]; exact hyF.out, by rw [show (Pt.mk x t C d).d.length = m from hmm.out]; exact hfF.out⟩, hB4.out⟩

set_option maxRecDepth 100000 in
set_option maxHeartbeats 4000000 in
theorem rq_bytes (w : World) (rq room lost : Nat) (la : Option Addr) (cap : Nat) (l : List Pt) (ns : List Nat) (h : RQ w rq room lost la cap l ns) :
    Calls Try.prog 10 #[.pointer (some ⟨rq, 0, none⟩)] w fun e w' => e = .returned (.int .i64 (tot l : Nat)) ∧ w' = w := by
  have c1 := h.b.c 1 _ rfl
  have hl64 := h.k
  have hsz := h.s
  obtain ⟨n, hn⟩ : ∃ n, RowKit.Hid (l.length = n) := ⟨_, Lib.hid rfl⟩
  have hn64 : n ≤ 64 := by have := hn.out; omega
  rw [hn.out] at c1
  replace h := Lib.hid h
  replace hsz := Lib.hid hsz
  clear hl64
  go_enter Try.func10, Try.ntmps10
  go_wp2_with fail
  go_loopw [3, 4] (fun s3 s4 wr => ∃ (i : Nat), s3 = .int .i64 (tot (l.take i) : Nat) ∧ s4 = .int .i64 (i : Nat) ∧ i ≤ n ∧ wr = w) (fun _ s4 _ => n - (intOf s4).toNat)
  case atStart => exact ⟨0, rfl, rfl, Nat.zero_le _, rfl⟩
  case round =>
    obtain ⟨i, rfl, rfl, hi, rfl⟩ := hrel
    by_cases hlt : i < n
    · have hltz : (i : Int) < (n : Int) := by omega
      obtain ⟨p, hp⟩ : ∃ p, l[i]? = some p := ⟨_, List.getElem?_eq_getElem (by have := hn.out; omega)⟩
      obtain ⟨b, off, a, c, rfl, hb, s0, s1, s2, s3, hy, _⟩ := h.out.slot hp
      have hm := hsz.out p (List.mem_of_getElem? hp)
      have htk : tot (l.take (i + 1)) = tot (l.take i) + (8 + p.d.length) := by rw [List.take_add_one, hp, tot_app]; simp [tot]
      have htl : tot (l.take i) ≤ 96000 := by
        have := tot_le (l := l.take i) (fun q hq => hsz.out q (List.mem_of_mem_take hq))
        have : (l.take i).length ≤ 64 := by rw [List.length_take]; omega
        omega
      replace htk := Lib.hid htk
      obtain ⟨T, hT⟩ : ∃ T, RowKit.Hid (tot (l.take i) = T) := ⟨_, Lib.hid rfl⟩
      obtain ⟨m, hmm⟩ : ∃ m, RowKit.Hid (p.d.length = m) := ⟨_, Lib.hid rfl⟩
      rw [hT.out] at htl ⊢
      rw [hmm.out] at hm s3
      have hTz : (T : Int) ≤ 96000 := by omega
      have hmz : (m : Int) ≤ 1492 := by omega
      replace hp := Lib.hid hp
      clear hy s0 s1 s2
      go_wp2_with fail
      go_roundw
      case rel => exact ⟨i + 1, by rw [htk.out, hT.out, hmm.out]; go_num, by go_num, hlt, by first | rfl | trivial⟩
      case measure => simp [intOf]; omega
    · obtain rfl : i = n := by omega
      go_wp2_with fail
      go_ret
      exact ⟨by first | rfl | (rw [← hn.out, List.take_length]; rfl), rfl⟩

set_option maxRecDepth 100000 in
set_option maxHeartbeats 4000000 in
theorem rq_pop_none (w : World) (rq room lost : Nat) (la : Option Addr) (cap : Nat) (ns : List Nat) (h : RQ w rq room lost la cap [] ns) :
    Calls Try.prog 16 #[.pointer (some ⟨rq, 0, none⟩)] w fun e w' => e = .returned (.tuple #[.agg #[.int .i64 0, .int .i64 0, .int .i64 0, .slice none 0 0], .int .i64 4]) ∧ Below w.heap.size w w' := by
  have hB := (Below.refl w.heap.size w).alloc (Nat.le_refl _) (.cells #[.int .i64 0, .int .i64 0, .int .i64 0, .slice none 0 0] 25)
  have hh := Lib.hid (rq_head_none _ rq room lost la cap ns (h.bel hB))
  have x0 : (w.alloc (.cells #[.int .i64 0, .int .i64 0, .int .i64 0, .slice none 0 0] 25)).cell? ⟨w.heap.size, 0, none⟩ = some (.int .i64 0) := by go_simp
  have x1 : (w.alloc (.cells #[.int .i64 0, .int .i64 0, .int .i64 0, .slice none 0 0] 25)).cell? ⟨w.heap.size, 1, none⟩ = some (.int .i64 0) := by go_simp
  have x2 : (w.alloc (.cells #[.int .i64 0, .int .i64 0, .int .i64 0, .slice none 0 0] 25)).cell? ⟨w.heap.size, 2, none⟩ = some (.int .i64 0) := by go_simp
  have x3 : (w.alloc (.cells #[.int .i64 0, .int .i64 0, .int .i64 0, .slice none 0 0] 25)).cell? ⟨w.heap.size, 3, none⟩ = some (.slice none 0 0) := by go_simp
  have xf : ∀ o, (w.alloc (.cells #[.int .i64 0, .int .i64 0, .int .i64 0, .slice none 0 0] 25)).frozen? ⟨w.heap.size, o, none⟩ = false := fun o => by go_simp
  clear h
  go_enter Try.func16, Try.ntmps16
  go_wp2_with fail
  refine hh.out.mono ?_
  rintro e w2 ⟨rfl, hb2⟩
  have hB2 := bNext hB hb2 (Nat.le_refl _)
  have hs2 := hb2.size
  rw [World.size_alloc] at hs2
  have hb3 := (Below.refl w2.heap.size w2).alloc (Nat.le_refl _) (.cells #[.int .i64 0, .int .i64 0, .int .i64 0, .slice none 0 0] 25)
  have y0 := cellB hb3 (cellB hb2 x0)
  have y1 := cellB hb3 (cellB hb2 x1)
  have y2 := cellB hb3 (cellB hb2 x2)
  have y3 := cellB hb3 (cellB hb2 x3)
  have F : ∀ o, (w2.alloc (.cells #[.int .i64 0, .int .i64 0, .int .i64 0, .slice none 0 0] 25)).frozen? ⟨w.heap.size, o, none⟩ = false := fun o => (hb3.frozen (p := ⟨w.heap.size, o, none⟩) (by simp only; omega)).trans ((hb2.frozen (p := ⟨w.heap.size, o, none⟩) (by simp)).trans (xf o))
  have hB3 := bNext hB2 hb3 (Nat.le_refl _)
  clear x0 x1 x2 x3 xf hb2 hb3 hh hB
  go_upto_region 2 with fail
  generalize (w2.alloc (.cells #[.int .i64 0, .int .i64 0, .int .i64 0, .slice none 0 0] 25)) = W at y0 y1 y2 y3 F hB3 ⊢
  go_wp2_with fail
  obtain ⟨s0, s1, s2, s3⟩ := Pk.set4 (.int .i64 0) (.int .i64 0) (.int .i64 0) (.slice none 0 0) y0 y1 y2 y3
  have hB4 := Pk.below4 hB3 (Nat.le_refl _) (.int .i64 0) (.int .i64 0) (.int .i64 0) (.slice none 0 0)
  exact bodyPost_ret (v := .tuple #[.agg #[.int .i64 0, .int .i64 0, .int .i64 0, .slice none 0 0], .int .i64 4]) (by simp [results, Try.results16, go_sem, s0, s1, s2, s3]) rfl ⟨rfl, hB4⟩

set_option maxRecDepth 100000 in
set_option maxHeartbeats 4000000 in
theorem rq_pop_ok (w : World) (rq room lost : Nat) (la : Option Addr) (cap : Nat) (p : Pt) (l : List Pt) (ns : List Nat) (h : RQ w rq room lost la cap (p :: l) ns) :
    Calls Try.prog 16 #[.pointer (some ⟨rq, 0, none⟩)] w (RPopQ rq room lost la p l ns w) := by
  have hB := (Below.refl w.heap.size w).alloc (Nat.le_refl _) (.cells #[.int .i64 0, .int .i64 0, .int .i64 0, .slice none 0 0] 25)
  have hh := Lib.hid (rq_head_ok _ rq room lost la cap p l ns (h.bel hB))
  have x0 : (w.alloc (.cells #[.int .i64 0, .int .i64 0, .int .i64 0, .slice none 0 0] 25)).cell? ⟨w.heap.size, 0, none⟩ = some (.int .i64 0) := by go_simp
  have x1 : (w.alloc (.cells #[.int .i64 0, .int .i64 0, .int .i64 0, .slice none 0 0] 25)).cell? ⟨w.heap.size, 1, none⟩ = some (.int .i64 0) := by go_simp
  have x2 : (w.alloc (.cells #[.int .i64 0, .int .i64 0, .int .i64 0, .slice none 0 0] 25)).cell? ⟨w.heap.size, 2, none⟩ = some (.int .i64 0) := by go_simp
  have x3 : (w.alloc (.cells #[.int .i64 0, .int .i64 0, .int .i64 0, .slice none 0 0] 25)).cell? ⟨w.heap.size, 3, none⟩ = some (.slice none 0 0) := by go_simp
  have xf : ∀ o, (w.alloc (.cells #[.int .i64 0, .int .i64 0, .int .i64 0, .slice none 0 0] 25)).frozen? ⟨w.heap.size, o, none⟩ = false := fun o => by go_simp
  have hrq := h.b.l
  obtain ⟨b, off, a5, c5, rfl, hb, _⟩ := h.slot (j := 0) rfl
  replace h := Lib.hid h
  obtain ⟨x, t, C, d⟩ := p
  obtain ⟨m, hmm⟩ : ∃ m, d.length = m := ⟨_, rfl⟩
  obtain ⟨n, hn⟩ : ∃ n, RowKit.Hid (l.length = n) := ⟨_, Lib.hid rfl⟩
  go_enter Try.func16, Try.ntmps16
  go_wp2_with fail
  refine hh.out.mono ?_
  rintro e w2 ⟨⟨_, rfl, a3, c3, rfl, hy, hf⟩, hb2⟩
  simp only at hy hf
  rw [hmm] at hy hf
  simp only [hmm]
  replace hmm := Lib.hid hmm
  have hB2 := bNext hB hb2 (Nat.le_refl _)
  have hs2 := hb2.size
  rw [World.size_alloc] at hs2 hf
  have hb3 := (Below.refl w2.heap.size w2).alloc (Nat.le_refl _) (.cells #[.int .i64 x, .int .i64 t, .int .i64 C, .slice a3 m c3] 25)
  have y0 := cellB hb3 (cellB hb2 x0)
  have y1 := cellB hb3 (cellB hb2 x1)
  have y2 := cellB hb3 (cellB hb2 x2)
  have y3 := cellB hb3 (cellB hb2 x3)
  have F : ∀ o, (w2.alloc (.cells #[.int .i64 x, .int .i64 t, .int .i64 C, .slice a3 m c3] 25)).frozen? ⟨w.heap.size, o, none⟩ = false := fun o => (hb3.frozen (p := ⟨w.heap.size, o, none⟩) (by simp only; omega)).trans ((hb2.frozen (p := ⟨w.heap.size, o, none⟩) (by simp)).trans (xf o))
  have v0 : (w2.alloc (.cells #[.int .i64 x, .int .i64 t, .int .i64 C, .slice a3 m c3] 25)).cell? ⟨w2.heap.size, 0, none⟩ = some (.int .i64 x) := by go_simp
  have v1 : (w2.alloc (.cells #[.int .i64 x, .int .i64 t, .int .i64 C, .slice a3 m c3] 25)).cell? ⟨w2.heap.size, 1, none⟩ = some (.int .i64 t) := by go_simp
  have v2 : (w2.alloc (.cells #[.int .i64 x, .int .i64 t, .int .i64 C, .slice a3 m c3] 25)).cell? ⟨w2.heap.size, 2, none⟩ = some (.int .i64 C) := by go_simp
  have v3 : (w2.alloc (.cells #[.int .i64 x, .int .i64 t, .int .i64 C, .slice a3 m c3] 25)).cell? ⟨w2.heap.size, 3, none⟩ = some (.slice a3 m c3) := by go_simp
  have hB3 := bNext hB2 hb3 (Nat.le_refl _)
  have hyW := Lib.hid (hy.bel hb3)
  replace hf := Lib.hid hf
  clear x0 x1 x2 x3 xf hb2 hb3 hh hB hy
  go_upto_region 2 with fail
  generalize (w2.alloc (.cells #[.int .i64 x, .int .i64 t, .int .i64 C, .slice a3 m c3] 25)) = W at y0 y1 y2 y3 F v0 v1 v2 v3 hB3 hyW ⊢
  have hQW := h.out.kf (KF.of (l := []) hB3) (fun i hi => by simp at hi) (by simp) (fun b _ => by simp)
  have c1 := hQW.b.c 1 _ rfl
  have cf := hQW.b.f
  have hcap1 : n + 1 ≤ cap := by obtain ⟨vs, hr, _⟩ := hQW.r; have := hr.le; simp only [List.length_cons] at this; rw [hn.out] at this; exact this
  simp only [List.length_cons] at c1
  rw [hn.out] at c1
  have hWs : w.heap.size < W.heap.size := World.block_lt_of_cell? _ _ y0
  have hrn : rq ≠ w.heap.size := by omega
  clear hQW
  by_cases hc1 : cap = 1
  · subst hc1
    obtain rfl : n = 0 := by omega
    have hF := Lib.hid (h.out.popEnd hB3 hWs hmm.out hyW.out hf.out off 0 (.inl ⟨rfl, rfl, rfl⟩))
    rw [hn.out] at hF
    go_wp2_with fail
    obtain ⟨z0, z1, z2, z3⟩ := Pk.set4 (W := W.setCell ⟨rq, 1, none⟩ (.slice (some ⟨b, off, none⟩) 0 0)) (.int .i64 x) (.int .i64 t) (.int .i64 C) (.slice a3 m c3) ((World.cell?_setCell_other _ _ _ _ (by simp <;> omega)).trans y0) ((World.cell?_setCell_other _ _ _ _ (by simp <;> omega)).trans y1) ((World.cell?_setCell_other _ _ _ _ (by simp <;> omega)).trans y2) ((World.cell?_setCell_other _ _ _ _ (by simp <;> omega)).trans y3)
    exact bodyPost_ret (v := .tuple #[.agg #[.int .i64 x, .int .i64 t, .int .i64 C, .slice a3 m c3], .int .i64 0]) (by simp [results, Try.results16, go_sem, z0, z1, z2, z3]) rfl hF.out
  · have hF := Lib.hid (h.out.popEnd hB3 hWs hmm.out hyW.out hf.out (off + 4) (cap - 1) (.inr ⟨hc1, rfl, rfl⟩))
    rw [hn.out] at hF
    go_wp2_with fail
    obtain ⟨z0, z1, z2, z3⟩ := Pk.set4 (W := W.setCell ⟨rq, 1, none⟩ (.slice (some ⟨b, off + 4, none⟩) n (cap - 1))) (.int .i64 x) (.int .i64 t) (.int .i64 C) (.slice a3 m c3) ((World.cell?_setCell_other _ _ _ _ (by simp <;> omega)).trans y0) ((World.cell?_setCell_other _ _ _ _ (by simp <;> omega)).trans y1) ((World.cell?_setCell_other _ _ _ _ (by simp <;> omega)).trans y2) ((World.cell?_setCell_other _ _ _ _ (by simp <;> omega)).trans y3)
    exact bodyPost_ret (v := .tuple #[.agg #[.int .i64 x, .int .i64 t, .int .i64 C, .slice a3 m c3], .int .i64 0]) (by simp [results, Try.results16, go_sem, z0, z1, z2, z3]) rfl hF.out
end Go.Proofs.Ytndlldlanjhanaa
