/- Queues of packets with what they hold: the program's queue as a list of packets. -/
import Derived.Test.YtndlldlanjhanaaFp2
namespace Go.Proofs.Ytndlldlanjhanaa
open Go.ChangeShapes Go.WideShapes Go.ChangeAt Go.RowKit
set_option linter.unusedVariables false
set_option linter.unusedSimpArgs false
open BigFrame By Fq Bs Fp

namespace Fp
/-- A packet, by what it says. -/
structure Pt where
  x : Int
  t : Int
  C : Int
  d : List Nat
/-- The bytes lie in none of these blocks. -/
def NoB (l : List Nat) (a : Option Addr) (n : Nat) : Prop := 0 < n → ∀ ad, a = some ad → ad.block ∉ l
theorem NoB.sub {l l2 : List Nat} {a : Option Addr} {n : Nat} (h : NoB l a n) (hs : ∀ i, i ∈ l2 → i ∈ l) : NoB l2 a n := fun hn ad e q => h hn ad e (hs _ q)
theorem NoB.app {l l2 : List Nat} {a : Option Addr} {n : Nat} (h : NoB l a n) (k : NoB l2 a n) : NoB (l ++ l2) a n := fun hn ad e q => by
  rcases List.mem_append.1 q with q | q
  · exact h hn ad e q
  · exact k hn ad e q
theorem NoB.far {m : Nat} {l : List Nat} {a : Option Addr} {n : Nat} (f : Far m a n) (hl : ∀ q, q ∈ l → q < m) : NoB l a n := f.notin hl
/-- Blocks that were made later. -/
theorem NoB.new {w : World} {l : List Nat} {a : Option Addr} {n c : Nat} {d : List Nat} (h : Byt w a n c d) (hl : ∀ q, q ∈ l → w.heap.size ≤ q) : NoB l a n := fun hn ad e q => by
  obtain ⟨b, o, e2, hb, _⟩ := h.row hn
  rw [e] at e2
  cases e2
  have := hl _ q
  simp only at this
  omega
/-- Four cells say a packet. -/
def IsP (w : World) (ns : List Nat) (p : Pt) (v0 v1 v2 v3 : Value) : Prop := v0 = .int .i64 p.x ∧ v1 = .int .i64 p.t ∧ v2 = .int .i64 p.C ∧ ∃ a c, v3 = .slice a p.d.length c ∧ Byt w a p.d.length c p.d ∧ NoB ns a p.d.length
theorem IsP.kf {l ns : List Nat} {w w' : World} {p : Pt} {v0 v1 v2 v3 : Value} (h : IsP w ns p v0 v1 v2 v3) (k : KF l w w') (hl : ∀ i, i ∈ l → i ∈ ns) : IsP w' ns p v0 v1 v2 v3 := by
  obtain ⟨h0, h1, h2, a, c, h3, hb, hn⟩ := h
  exact ⟨h0, h1, h2, a, c, h3, k.byt hb (hn.sub hl), hn⟩
theorem IsP.sub {ns ns2 : List Nat} {w : World} {p : Pt} {v0 v1 v2 v3 : Value} (h : IsP w ns p v0 v1 v2 v3) (hl : ∀ i, i ∈ ns2 → i ∈ ns) : IsP w ns2 p v0 v1 v2 v3 := by
  obtain ⟨h0, h1, h2, a, c, h3, hb, hn⟩ := h
  exact ⟨h0, h1, h2, a, c, h3, hb, hn.sub hl⟩
theorem IsP.app {ns ns2 : List Nat} {w : World} {p : Pt} {v0 v1 v2 v3 : Value} (h : IsP w ns p v0 v1 v2 v3) (hl : ∀ q, q ∈ ns2 → w.heap.size ≤ q ∨ q ∈ ns) : IsP w ns2 p v0 v1 v2 v3 := by
  obtain ⟨h0, h1, h2, a, c, h3, hb, hn⟩ := h
  refine ⟨h0, h1, h2, a, c, h3, hb, fun hp ad e q => ?_⟩
  rcases hl _ q with z | z
  · exact NoB.new (l := [ad.block]) hb (fun q hq => by simp at hq; omega) hp ad e (by simp)
  · exact hn hp ad e z
/-- The sum of the sizes. -/
def tot : List Pt → Nat
  | [] => 0
  | p :: l => 8 + p.d.length + tot l
theorem tot_app (l r : List Pt) : tot (l ++ r) = tot l + tot r := by
  induction l with
  | nil => simp [tot]
  | cons p l ih => simp only [List.cons_append, tot, ih]; omega
theorem tot_one (p : Pt) : tot [p] = 8 + p.d.length := by simp [tot]
def Sized (l : List Pt) : Prop := ∀ p, p ∈ l → p.d.length ≤ 1492
theorem tot_le {l : List Pt} (h : Sized l) : tot l ≤ l.length * 1500 := by
  induction l with
  | nil => simp [tot]
  | cons p l ih =>
    have := ih (fun q hq => h q (List.mem_cons_of_mem _ hq))
    have := h p (List.mem_cons_self ..)
    simp only [tot, List.length_cons, Nat.add_mul, Nat.one_mul]
    omega
theorem _root_.Go.Proofs.Ytndlldlanjhanaa.Fq.QAt.kf {l : List Nat} {W W' : World} {qb rb room pos n by_ dr : Nat} (h : QAt W qb rb room pos n by_ dr) (k : KF l W W') (h1 : qb ∉ l) (h2 : rb ∉ l) : QAt W' qb rb room pos n by_ dr := by
  have hq := World.block_lt_of_cell? _ _ h.c0
  have hr := h.rl
  have e1 := k.k qb hq h1
  have e2 := k.k rb hr h2
  have c : ∀ o, W'.cell? ⟨qb, o, none⟩ = W.cell? ⟨qb, o, none⟩ := fun o => World.cell?_of_block e1
  exact ⟨(c _).trans h.c0, (c _).trans h.c1, (c _).trans h.c2, (c _).trans h.c3, (c _).trans h.c4, fun o => (World.frozen?_of_block e1).trans (h.f o), fun o => (World.frozen?_of_block e2).trans (h.rf o), h.ne, Nat.lt_of_lt_of_le hr k.size, h.room1, h.room2, h.pos1, h.n1, h.by1, h.dr1⟩
theorem _root_.Go.Proofs.Ytndlldlanjhanaa.Fq.RingAt.kf {l : List Nat} {W W' : World} {rb room : Nat} {pk : Nat → Nat → Value} (h : RingAt W rb room pk) (hr : rb < W.heap.size) (k : KF l W W') (h2 : rb ∉ l) : RingAt W' rb room pk := fun j i hj hi => (World.cell?_of_block (k.k rb hr h2)).trans (h j i hj hi)
/-- The program's queue holds these packets. -/
structure PQ (w : World) (qb rb room pos dr : Nat) (l : List Pt) (ns : List Nat) : Prop where
  q : QAt w qb rb room pos l.length (tot l) dr
  r : ∃ pk, RingAt w rb room pk ∧ ∀ (j : Nat) (p : Pt), l[j]? = some p → IsP w (qb :: rb :: ns) p (pk ((pos + j) % room) 0) (pk ((pos + j) % room) 1) (pk ((pos + j) % room) 2) (pk ((pos + j) % room) 3)
  s : Sized l
theorem PQ.kf {L ns : List Nat} {w w' : World} {qb rb room pos dr : Nat} {l : List Pt} (h : PQ w qb rb room pos dr l ns) (k : KF L w w') (hL : ∀ i, i ∈ L → i ∈ ns) (h1 : qb ∉ L) (h2 : rb ∉ L) : PQ w' qb rb room pos dr l ns := by
  obtain ⟨pk, hr, hp⟩ := h.r
  exact ⟨h.q.kf k h1 h2, ⟨pk, hr.kf h.q.rl k h2, fun j p hj => (hp j p hj).kf k (fun i hi => by simp [hL i hi])⟩, h.s⟩
theorem PQ.bel {ns : List Nat} {w w' : World} {qb rb room pos dr : Nat} {l : List Pt} (h : PQ w qb rb room pos dr l ns) (k : Below w.heap.size w w') : PQ w' qb rb room pos dr l ns :=
  h.kf (KF.of (l := []) k) (fun i hi => by simp at hi) (by simp) (by simp)
theorem PQ.ns {ns ns2 : List Nat} {w : World} {qb rb room pos dr : Nat} {l : List Pt} (h : PQ w qb rb room pos dr l ns) (hl : ∀ q, q ∈ ns2 → w.heap.size ≤ q ∨ q ∈ ns) : PQ w qb rb room pos dr l ns2 := by
  obtain ⟨pk, hr, hp⟩ := h.r
  exact ⟨h.q, ⟨pk, hr, fun j p hj => (hp j p hj).app (fun q hq => by
    simp only [List.mem_cons] at hq ⊢
    rcases hq with e | e | e
    · exact .inr (.inl e)
    · exact .inr (.inr (.inl e))
    · rcases hl q e with z | z
      · exact .inl z
      · exact .inr (.inr (.inr z)))⟩, h.s⟩
theorem PQ.lt {ns : List Nat} {w : World} {qb rb room pos dr : Nat} {l : List Pt} (h : PQ w qb rb room pos dr l ns) : qb < w.heap.size ∧ rb < w.heap.size := ⟨World.block_lt_of_cell? _ _ h.q.c0, h.q.rl⟩
/-- What a call that changes the program's queue leaves. -/
def PqP (v : Value) (qb rb room pos dr : Nat) (l : List Pt) (ns : List Nat) (w : World) (e : Ending) (w' : World) : Prop := e = .returned v ∧ PQ w' qb rb room pos dr l ns ∧ KF [qb, rb] w w'
theorem mod_injF {room pos i j : Nat} (hi : i < room) (hj : j < room) (h : (pos + i) % room = (pos + j) % room) : i = j := by
  have e1 := Nat.div_add_mod (pos + i) room
  have e2 := Nat.div_add_mod (pos + j) room
  rw [h] at e1
  have key : ∀ (x y r : Nat), room * x + r = pos + i → room * y + r = pos + j → i = j := fun x y r q1 q2 => by
    rcases Nat.lt_trichotomy x y with z | z | z
    · have : room * (x + 1) ≤ room * y := Nat.mul_le_mul_left _ z
      rw [Nat.mul_add] at this
      omega
    · subst z; omega
    · have : room * (y + 1) ≤ room * x := Nat.mul_le_mul_left _ z
      rw [Nat.mul_add] at this
      omega
  exact key _ _ _ e1 e2
end Fp

theorem pq_push_ok {w : World} {qb rb room pos dr : Nat} {l : List Pt} {ns : List Nat} (h : PQ w qb rb room pos dr l ns) (hns : ∀ q, q ∈ ns → q < w.heap.size) (p : Pt) (a : Option Addr) (cm : Nat) (hb : Byt w a p.d.length cm p.d) (hm : p.d.length ≤ 1492) (hn : l.length < room) :
    Calls Try.prog 13 #[.pointer (some ⟨qb, 0, none⟩), .agg #[.int .i64 p.x, .int .i64 p.t, .int .i64 p.C, .slice a p.d.length cm]] w (PqP (.int .i64 0) qb rb room pos dr (l ++ [p]) ns w) := by
  obtain ⟨pk, hr, hp⟩ := h.r
  have hlt := h.lt
  have ht := tot_le h.s
  have hr2 := h.q.room2
  refine (qpushF_ok qb rb room pos l.length (tot l) dr p.x p.t p.C a p.d.length cm pk w h.q hr hn hm (by omega) p.d (copyF_of hb (by omega))).mono ?_
  rintro e w' ⟨rfl, a1, c1, ⟨hB, hF⟩, hQ, hR, hK⟩
  have kf := kept_kf hK
  refine ⟨rfl, ⟨?_, ⟨_, hR, fun j q hj => ?_⟩, fun q hq => ?_⟩, kf⟩
  · rw [List.length_append, tot_app, tot_one, List.length_singleton, ← Nat.add_assoc]
    exact hQ
  · have hjl := (List.getElem?_eq_some_iff.1 hj).1
    rw [List.length_append, List.length_singleton] at hjl
    by_cases hjn : j = l.length
    · subst hjn
      rw [List.getElem?_append_right (Nat.le_refl _), Nat.sub_self] at hj
      simp at hj
      subst hj
      simp only [if_true]
      exact ⟨rfl, rfl, rfl, a1, c1, rfl, hB, NoB.far hF (fun q hq => by
        simp only [List.mem_cons] at hq
        rcases hq with rfl | rfl | hq
        · exact hlt.1
        · exact hlt.2
        · exact hns q hq)⟩
    · rw [List.getElem?_append_left (by omega)] at hj
      have hne : ¬ (pos + j) % room = (pos + l.length) % room := fun e => hjn (mod_injF (by omega) hn e)
      simp only [if_neg hne]
      exact (hp j q hj).kf kf (fun i hi => by simp at hi; simp; omega)
  · rcases List.mem_append.1 hq with q1 | q1
    · exact h.s q q1
    · simp at q1; subst q1; exact hm
theorem pq_push_full {w : World} {qb rb room pos dr : Nat} {l : List Pt} {ns : List Nat} (h : PQ w qb rb room pos dr l ns) (p : Pt) (a : Option Addr) (cm : Nat) (hb : Byt w a p.d.length cm p.d) (hm : p.d.length ≤ 1492) (hn : l.length = room) (hd : dr < 1000000) :
    Calls Try.prog 13 #[.pointer (some ⟨qb, 0, none⟩), .agg #[.int .i64 p.x, .int .i64 p.t, .int .i64 p.C, .slice a p.d.length cm]] w (PqP (.int .i64 100) qb rb room pos (dr + 1) l ns w) := by
  obtain ⟨pk, hr, hp⟩ := h.r
  have hq := h.q
  rw [hn] at hq
  refine (qpushF_full qb rb room pos (tot l) dr p.x p.t p.C a p.d.length cm pk w hq hr hd hm p.d (copyF_of hb (by omega))).mono ?_
  rintro e w' ⟨rfl, hQ, hR, hK⟩
  have kf := kept_kf hK
  exact ⟨rfl, ⟨by rw [hn]; exact hQ, ⟨pk, hR, fun j q hj => (hp j q hj).kf kf (fun i hi => by simp at hi; simp; omega)⟩, h.s⟩, kf⟩
set_option maxRecDepth 100000 in
set_option maxHeartbeats 4000000 in
theorem pq_push_big (qb : Nat) (p : Pt) (a : Option Addr) (cm : Nat) (w : World) (hm : 1492 < p.d.length) (hm2 : p.d.length ≤ 1000000) :
    Calls Try.prog 13 #[.pointer (some ⟨qb, 0, none⟩), .agg #[.int .i64 p.x, .int .i64 p.t, .int .i64 p.C, .slice a p.d.length cm]] w fun e w' => e = .returned (.int .i64 2) ∧ Below w.heap.size w w' := by
  have k1 : (1500 : Int) < 8 + ((p.d.length : Nat) : Int) := by omega
  have hB0 := (Below.refl w.heap.size w).alloc (Nat.le_refl _) (.cells #[.int .i64 p.x, .int .i64 p.t, .int .i64 p.C, .slice a p.d.length cm] 25)
  have hz := Lib.hid (fun u => qsize_c p.x p.t p.C a p.d.length cm u hm2)
  generalize p.d.length = m at k1 hB0 hz hm hm2 ⊢
  go_enter Try.func13, Try.ntmps13
  go_wp2_with fail
  refine (hz.out _).mono ?_
  rintro e w1 ⟨rfl, hb1⟩
  have hB1 := bNext hB0 hb1 (Nat.le_refl _)
  clear hz
  go_wp2_with fail
  exact bodyPost_ret (v := .int .i64 2) (by simp [results, Try.results13, go_sem]) rfl ⟨rfl, hB1⟩

namespace Fp
/-- A copy of a packet that was handed out. -/
def OutP (p : Pt) (v : Value) (w : World) (m : Nat) : Prop := ∃ a c, v = .agg #[.int .i64 p.x, .int .i64 p.t, .int .i64 p.C, .slice a p.d.length c] ∧ Byt w a p.d.length c p.d ∧ Far m a p.d.length
def PopQ (qb rb room pos dr : Nat) (p : Pt) (l : List Pt) (ns : List Nat) (w : World) (e : Ending) (w' : World) : Prop := (∃ v, e = .returned (.tuple #[v, .int .i64 0]) ∧ OutP p v w' w.heap.size) ∧ PQ w' qb rb room ((pos + 1) % room) dr l ns ∧ KF [qb, rb] w w'
def HeadQ (p : Pt) (w : World) (e : Ending) (w' : World) : Prop := (∃ v, e = .returned (.tuple #[v, .bool true]) ∧ OutP p v w' w.heap.size) ∧ Below w.heap.size w w'
theorem PQ.at0 {w : World} {qb rb room pos dr : Nat} {p : Pt} {l : List Pt} {ns : List Nat} (h : PQ w qb rb room pos dr (p :: l) ns) : ∃ pk a c, RingAt w rb room pk ∧ pk pos 0 = .int .i64 p.x ∧ pk pos 1 = .int .i64 p.t ∧ pk pos 2 = .int .i64 p.C ∧ pk pos 3 = .slice a p.d.length c ∧ Byt w a p.d.length c p.d ∧ (∀ (j : Nat) (q : Pt), l[j]? = some q → IsP w (qb :: rb :: ns) q (pk (((pos + 1) % room + j) % room) 0) (pk (((pos + 1) % room + j) % room) 1) (pk (((pos + 1) % room + j) % room) 2) (pk (((pos + 1) % room + j) % room) 3)) := by
  obtain ⟨pk, hr, hp⟩ := h.r
  have hq := hp 0 p rfl
  rw [show (pos + 0) % room = pos by rw [Nat.add_zero]; exact Nat.mod_eq_of_lt h.q.pos1] at hq
  obtain ⟨h0, h1, h2, a, c, h3, hb, hn⟩ := hq
  refine ⟨pk, a, c, hr, h0, h1, h2, h3, hb, fun j q hj => ?_⟩
  rw [Nat.mod_add_mod, Nat.add_assoc, Nat.add_comm 1 j]
  exact hp (j + 1) q hj
end Fp
theorem pq_pop_ok {w : World} {qb rb room pos dr : Nat} {p : Pt} {l : List Pt} {ns : List Nat} (h : PQ w qb rb room pos dr (p :: l) ns) :
    Calls Try.prog 14 #[.pointer (some ⟨qb, 0, none⟩)] w (PopQ qb rb room pos dr p l ns w) := by
  obtain ⟨pk, a, c, hr, h0, h1, h2, h3, hb, hp⟩ := h.at0
  have hm := h.s p (List.mem_cons_self ..)
  have hq : QAt w qb rb room pos (l.length + 1) (8 + p.d.length + tot l) dr := h.q
  refine (qpopF_ok qb rb room pos (l.length + 1) (8 + p.d.length + tot l) dr p.x p.t p.C a p.d.length c pk w hq hr (by omega) hm (by omega) h0 h1 h2 h3 p.d (copyF_of hb (by omega))).mono ?_
  rintro e w' ⟨a1, c1, rfl, ⟨hB, hF⟩, hQ, hR, hK⟩
  have kf := kept_kf hK
  refine ⟨⟨_, rfl, a1, c1, rfl, hB, hF⟩, ⟨?_, ⟨pk, hR, fun j q hj => (hp j q hj).kf kf (fun i hi => by simp at hi; simp; omega)⟩, fun q hq => h.s q (List.mem_cons_of_mem _ hq)⟩, kf⟩
  rw [show l.length + 1 - 1 = l.length by omega, show 8 + p.d.length + tot l - (8 + p.d.length) = tot l by omega] at hQ
  exact hQ
theorem pq_head_ok {w : World} {qb rb room pos dr : Nat} {p : Pt} {l : List Pt} {ns : List Nat} (h : PQ w qb rb room pos dr (p :: l) ns) :
    Calls Try.prog 18 #[.pointer (some ⟨qb, 0, none⟩)] w (HeadQ p w) := by
  obtain ⟨pk, a, c, hr, h0, h1, h2, h3, hb, hp⟩ := h.at0
  have hm := h.s p (List.mem_cons_self ..)
  have hq : QAt w qb rb room pos (l.length + 1) (8 + p.d.length + tot l) dr := h.q
  refine (qheadF_ok qb rb room pos (l.length + 1) (8 + p.d.length + tot l) dr p.x p.t p.C a p.d.length c pk w hq hr (by omega) h0 h1 h2 h3 p.d (copyF_of hb (by omega))).mono ?_
  rintro e w' ⟨⟨a1, c1, rfl, hB, hF⟩, hbb⟩
  exact ⟨⟨_, rfl, a1, c1, rfl, hB, hF⟩, hbb⟩
theorem pq_new {room : Nat} {w : World} (h1 : 1 ≤ room) (h2 : room ≤ 64) (ns : List Nat) :
    Calls Try.prog 5 #[.int .i64 (room : Nat)] w fun e w' => ∃ qb rb, e = .returned (.tuple #[.pointer (some ⟨qb, 0, none⟩), .int .i64 0]) ∧ PQ w' qb rb room 0 0 [] ns ∧ w.heap.size ≤ qb ∧ w.heap.size ≤ rb ∧ Below w.heap.size w w' := by
  refine (qnew_ok room w h1 h2).mono ?_
  rintro e w' ⟨qb, rb, pk, rfl, hQ, hR, h3, h4, hB⟩
  exact ⟨qb, rb, rfl, ⟨hQ, ⟨pk, hR, fun j p hj => by simp at hj⟩, fun p hp => by simp at hp⟩, h3, h4, hB⟩
set_option maxRecDepth 100000 in
set_option maxHeartbeats 2000000 in
theorem qnew_bad (room : Int) (w : World) (h : room < 1 ∨ 64 < room) : Calls Try.prog 5 #[.int .i64 room] w fun e w' => e = .returned (.tuple #[.pointer none, .int .i64 2]) ∧ w' = w := by
  by_cases h1 : room < 1
  · clear h
    go_enter Try.func5, Try.ntmps5
    go_wp2_with fail
    go_ret2
    exact ⟨rfl, rfl⟩
  · have h2 : 64 < room := by omega
    clear h
    go_enter Try.func5, Try.ntmps5
    go_wp2_with fail
    go_ret2
    exact ⟨rfl, rfl⟩
end Go.Proofs.Ytndlldlanjhanaa
