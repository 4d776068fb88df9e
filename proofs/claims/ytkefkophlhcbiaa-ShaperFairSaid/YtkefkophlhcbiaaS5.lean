/- The shaper: what went out; what a pump does (plain); packets built. -/
import Derived.Test.YtkefkophlhcbiaaS4
namespace Go.Proofs.Ytkefkophlhcbiaa
open Go.ChangeShapes Go.WideShapes Go.ChangeAt Go.RowKit
set_option linter.unusedVariables false
set_option linter.unusedSimpArgs false
open BigFrame Pk Sh Fa Fq
open Vr hiding cellB
open By (Byt RowG blkO)
open Fp (Pt PQ PqP)
open Bs (cellB)

namespace Sh
/-- The bytes of a packet. -/
def bldD (p : Pt) : List Nat := pkL p.t.toNat p.C.toNat p.d.length (pkC p.t.toNat p.C.toNat p.d.length (fun i => p.d.getD i 0)) (fun i => p.d.getD i 0)
theorem bldD_len (p : Pt) : (bldD p).length = 8 + p.d.length := by unfold bldD; rw [pkL_len]
def BuildP (p : Pt) (w : World) (e : Ending) (w' : World) : Prop := ∃ g c, e = .returned (.tuple #[.slice (some ⟨g, 0, none⟩) (8 + p.d.length) c, .int .i64 0]) ∧ Byt w' (some ⟨g, 0, none⟩) (8 + p.d.length) c (bldD p) ∧ w.heap.size ≤ g ∧ Below w.heap.size w w'
/-- What a pick says of the heads. -/
def pk (I : Ids) (G : Gs) : Picked := pickX I.N (hd I G) (toldN I.N I.ALL G.x.V I.W G.x.Z G.x.D G.x.S G.x.F (hd I G))
def noG (I : Ids) (G : Gs) : Gs := { G with x := (pk I G).x, p := G.p + 1 }
def popG (I : Ids) (G : Gs) (k : Nat) (p : Pt) (l : List Pt) : Gs := { noG I G with Q := upQ G.Q k l, tok := up G.tok (I.T k).toNat (G.tok (I.T k).toNat - (8 + (p.d.length : Int))), link := G.link - (8 + (p.d.length : Int)) }
def startG (b : Int) (G : Gs) : Gs := { G with link := min (G.link + min (max b 0) 1048576) 1048576, n := G.n + 1 }
/-- A step of a pump: a packet goes out. -/
def Step (I : Ids) (G : Gs) (k : Nat) (p : Pt) (l : List Pt) : Prop := 0 < G.link ∧ (pk I G).ok = true ∧ (pk I G).k = (k : Int) ∧ k < I.N ∧ G.Q k = p :: l ∧ 8 + (p.d.length : Int) ≤ G.tok (I.T k).toNat
inductive Run (I : Ids) : Gs → List (Nat × Pt) → Gs → Prop
  | nil (G : Gs) : Run I G [] G
  | snoc {G G1 : Gs} {out : List (Nat × Pt)} {k : Nat} {p : Pt} {l : List Pt} : Run I G out G1 → Step I G1 k p l → Run I G (out ++ [(k, p)]) (popG I G1 k p l)
/-- A pump ends. -/
def Done (I : Ids) (G1 G2 : Gs) : Prop := (G1.link ≤ 0 ∧ G2 = G1) ∨ (0 < G1.link ∧ (pk I G1).ok = false ∧ G2 = { noG I G1 with link := 0 })
theorem pickX_yes {N : Nat} {h : Nat → Int} {x : Sched} (q : (pickX N h x).ok = true) : ∃ k : Nat, (pickX N h x).k = (k : Int) ∧ k < N ∧ 0 < h k := by
  unfold pickX at q ⊢
  by_cases hno : leastK x.S (rdy h) N < 0
  · rw [if_pos hno] at q; simp at q
  · rw [if_neg hno]
    obtain ⟨kn, hkn, hkN, hkr, hkS⟩ := pick_some (F := x.F) (V := x.V) hno
    exact ⟨kn, by simp only [hkn], hkN, by simpa [rdy] using hkr⟩
theorem hd_pos {I : Ids} {G : Gs} {k : Nat} (h : 0 < hd I G k) : ∃ p l, G.Q k = p :: l ∧ 8 + (p.d.length : Int) ≤ G.tok (I.T k).toNat := by
  unfold hd at h
  cases hq : G.Q k with
  | nil => rw [hq] at h; simp at h
  | cons p l =>
    rw [hq] at h
    simp only at h
    refine ⟨p, l, rfl, ?_⟩
    by_cases z : 8 + (p.d.length : Int) ≤ G.tok (I.T k).toNat
    · exact z
    · rw [if_neg z] at h; omega
theorem pk_step {I : Ids} {G : Gs} (hl : 0 < G.link) (h : (pk I G).ok = true) : ∃ k p l, Step I G k p l := by
  obtain ⟨k, h1, h2, h3⟩ := pickX_yes h
  obtain ⟨p, l, h4, h5⟩ := hd_pos h3
  exact ⟨k, p, l, hl, h, h1, h2, h4, h5⟩
theorem hd_ok {I : Ids} {G : Gs} (hpk : ∀ i, i < I.N → ∀ p, p ∈ G.Q i → PtOk (I.T i) p) : ∀ i, i < I.N → headBad (hd I G i) = false := fun i hi => by
  unfold hd headBad
  cases hq : G.Q i with
  | nil => simp
  | cons p l =>
    have := (hpk i hi p (by rw [hq]; exact List.mem_cons_self ..)).2.2.2.1
    simp only
    split
    · simp; omega
    · simp
/-- The records of what went out. -/
def sentC : List (Nat × Pt) → List Value
  | [] => []
  | (k, p) :: l => [.int .i64 0, .int .i64 0, .int .i64 p.t, .int .i64 (k : Nat), .int .i64 (8 + (p.d.length : Int)), .int .i64 p.x] ++ sentC l
theorem sentC_app (l r : List (Nat × Pt)) : sentC (l ++ r) = sentC l ++ sentC r := by
  induction l with
  | nil => rfl
  | cons x l ih => obtain ⟨k, p⟩ := x; simp only [List.cons_append, sentC, ih, List.append_assoc]
theorem sentC_len : ∀ l : List (Nat × Pt), (sentC l).length = l.length * 6
  | [] => rfl
  | (k, p) :: l => by
    have := sentC_len l
    simp only [sentC, List.length_append, List.length_cons, List.length_nil, this]
    omega
theorem sentC_at : ∀ (l : List (Nat × Pt)) (i : Nat) (kp : Nat × Pt), l[i]? = some kp → ∀ j, j < 6 → (sentC l)[i * 6 + j]? = ([.int .i64 0, .int .i64 0, .int .i64 kp.2.t, .int .i64 (kp.1 : Nat), .int .i64 (8 + (kp.2.d.length : Int)), .int .i64 kp.2.x] : List Value)[j]?
  | (k, p) :: l, 0, kp, h, j, hj => by
    simp at h
    subst h
    simp only [sentC, Nat.zero_mul, Nat.zero_add]
    rw [List.getElem?_append_left (by simpa using hj)]
  | (k, p) :: l, i + 1, kp, h, j, hj => by
    have q := sentC_at l i kp (by simpa using h) j hj
    simp only [sentC]
    rw [List.getElem?_append_right (by simp; omega), show (i + 1) * 6 + j - ([Value.int .i64 0, .int .i64 0, .int .i64 p.t, .int .i64 (k : Nat), .int .i64 (8 + (p.d.length : Int)), .int .i64 p.x] : List Value).length = i * 6 + j by simp; omega]
    exact q
  | [], i, kp, h, j, hj => by simp at h
/-- Rows of what went out: the records, the bytes. -/
structure OutR (w : World) (B : Nat) (la : Option Addr) (ca : Nat) (lb : Option Addr) (cb : Nat) (out : List (Nat × Pt)) (vs : List Value) : Prop where
  s : RowG w 6 la out.length ca (sentC out)
  b : RowG w 1 lb out.length cb vs
  y : ∀ (j : Nat) (kp : Nat × Pt), out[j]? = some kp → ∃ g c : Nat, vs[j]? = some (Value.slice (some ⟨g, 0, none⟩) (8 + kp.2.d.length) c) ∧ Byt w (some ⟨g, 0, none⟩) (8 + kp.2.d.length) c (bldD kp.2) ∧ B ≤ g ∧ g ∉ blkO la ∧ g ∉ blkO lb
  fa : ∀ q, q ∈ blkO la → B ≤ q
  fb : ∀ q, q ∈ blkO lb → B ≤ q
  ne : ∀ q, q ∈ blkO la → q ∉ blkO lb
theorem OutR.kf {w w' : World} {B : Nat} {la lb : Option Addr} {ca cb : Nat} {out : List (Nat × Pt)} {vs : List Value} (h : OutR w B la ca lb cb out vs) {L : List Nat} (k : By.KF L w w') (hL : ∀ q, q ∈ L → q < B) : OutR w' B la ca lb cb out vs := by
  refine ⟨h.s.kf k (fun q hq z => by have := h.fa q hq; have := hL q z; omega), h.b.kf k (fun q hq z => by have := h.fb q hq; have := hL q z; omega), fun j kp hj => ?_, h.fa, h.fb, h.ne⟩
  obtain ⟨g, c, h1, h2, h3, h4⟩ := h.y j kp hj
  exact ⟨g, c, h1, k.byt h2 (fun _ ad e z => by cases e; have := hL _ z; simp only at this; omega), h3, h4⟩
theorem OutR.bel {w w' : World} {B : Nat} {la lb : Option Addr} {ca cb : Nat} {out : List (Nat × Pt)} {vs : List Value} (h : OutR w B la ca lb cb out vs) (k : Below w.heap.size w w') : OutR w' B la ca lb cb out vs := h.kf (By.KF.of (l := []) k) (fun q hq => by simp at hq)
theorem OutR.emp (w : World) (B : Nat) : OutR w B none 0 none 0 [] [] := ⟨RowG.emp w 6, RowG.emp w 1, fun j kp h => by simp at h, fun q hq => by simp [blkO] at hq, fun q hq => by simp [blkO] at hq, fun q hq => by simp [blkO] at hq⟩
/-- Both rows are longer by one; ahead of the second the bytes were built. -/
theorem OutR.push {w w1 w2 w3 w4 : World} {B : Nat} {la lb la' lb' : Option Addr} {ca cb ca' cb' : Nat} {out : List (Nat × Pt)} {vs : List Value} {k : Nat} {p : Pt} (h : OutR w B la ca lb cb out vs) (hB : B ≤ w.heap.size)
    (hs : RowG w1 6 la' (out.length + 1) ca' (sentC out ++ [.int .i64 0, .int .i64 0, .int .i64 p.t, .int .i64 (k : Nat), .int .i64 (8 + (p.d.length : Int)), .int .i64 p.x])) (k1 : By.KF (blkO la) w w1) (h1 : ∀ b, b ∈ blkO la' → b ∈ blkO la ∨ w.heap.size ≤ b)
    {g c : Nat} (k2 : Below w1.heap.size w1 w2) (hy : Byt w2 (some ⟨g, 0, none⟩) (8 + p.d.length) c (bldD p)) (hg : w1.heap.size ≤ g) (k3 : Below w2.heap.size w2 w3)
    (hb : RowG w4 1 lb' (out.length + 1) cb' (vs ++ [.slice (some ⟨g, 0, none⟩) (8 + p.d.length) c])) (k4 : By.KF (blkO lb) w3 w4) (h4 : ∀ b, b ∈ blkO lb' → b ∈ blkO lb ∨ w3.heap.size ≤ b) :
    OutR w4 B la' ca' lb' cb' (out ++ [(k, p)]) (vs ++ [.slice (some ⟨g, 0, none⟩) (8 + p.d.length) c]) := by
  have s1 := k1.size
  have s2 := k2.size
  have s3 := k3.size
  have la1 : ∀ b, b ∈ blkO la' → b < w1.heap.size := fun b hb' => hs.lt hb'
  have lb0 : ∀ b, b ∈ blkO lb → b < w.heap.size := fun b hb' => h.b.lt hb'
  have hg2 : g < w2.heap.size := by
    obtain ⟨b, o, e, hb', _⟩ := hy.row (by omega)
    cases e
    exact hb'
  have ne' : ∀ q, q ∈ blkO la' → q ∉ blkO lb := fun q hq z => by
    rcases h1 q hq with y | y
    · exact h.ne q y z
    · have := lb0 q z; omega
  refine ⟨?_, by rw [List.length_append, List.length_singleton]; exact hb, fun j kp hj => ?_, fun q hq => ?_, fun q hq => ?_, fun q hq z => ?_⟩
  · rw [List.length_append, List.length_singleton, sentC_app]
    exact ((hs.bel k2).bel k3).kf k4 (fun q hq z => ne' q hq z)
  · have hjl := (List.getElem?_eq_some_iff.1 hj).1
    rw [List.length_append, List.length_singleton] at hjl
    have hvl : vs.length = out.length := by have := h.b.len; omega
    by_cases e : j < out.length
    · rw [List.getElem?_append_left e] at hj
      obtain ⟨g1, c1, y1, y2, y3, y4, y5⟩ := h.y j kp hj
      have hgw : g1 < w.heap.size := by
        obtain ⟨b, o, e, hb', _⟩ := y2.row (by omega)
        cases e
        exact hb'
      refine ⟨g1, c1, by rw [List.getElem?_append_left (by omega)]; exact y1, ?_, y3, fun z => ?_, fun z => ?_⟩
      · have b1 := k1.byt y2 (fun _ ad e z => by cases e; exact y4 z)
        have b3 := (b1.bel k2).bel k3
        exact k4.byt b3 (fun _ ad e z => by cases e; exact y5 z)
      · rcases h1 g1 z with q | q
        · exact y4 q
        · omega
      · rcases h4 g1 z with q | q
        · exact y5 q
        · omega
    · obtain rfl : j = out.length := by omega
      rw [List.getElem?_append_right (Nat.le_refl _), Nat.sub_self] at hj
      simp at hj
      subst hj
      refine ⟨g, c, by rw [List.getElem?_append_right (by omega), hvl, Nat.sub_self]; rfl, k4.byt (hy.bel k3) (fun _ ad e z => by cases e; have := lb0 _ z; simp only at this; omega), by omega, fun z => ?_, fun z => ?_⟩
      · have := la1 g z; omega
      · rcases h4 g z with q | q
        · have := lb0 g q; omega
        · omega
  · rcases h1 q hq with z | z
    · exact h.fa q z
    · omega
  · rcases h4 q hq with z | z
    · exact h.fb q z
    · omega
  · rcases h4 q z with y | y
    · exact ne' q hq y
    · have := la1 q hq; omega
theorem wpList_app_row {w : World} {ops : Array Oper} {rest : List Oper} {o : Oper} {a : Act} {Q : Exit → Act → World → Prop} (hg : o.guard = none) (s x : Operand) (t e : TypeId)
    (ho : o.op = .call { callee := .builtin .append, args := #[s, x], argTypes := #[t, t] }) (i : TypeInfo) (z : Value) (size bytes : Nat) (h1 : Try.prog.underlying t = some (.slice e)) (h2 : Try.prog.info? e = some i) (h3 : i.zero = some z) (h4 : i.size = size) (h5 : i.bytes = bytes) (h6 : z.cells.size = size) (h7 : 0 < size) (h8 : bytes ≤ 1000)
    (av : Option Addr) (n cap : Nat) (vs news : List Value) (hs : a.eval s = .slice av n cap) (R : RowG w size av n cap vs) {q c : Nat} (hx : a.eval x = .slice (some ⟨q, 0, none⟩) 1 c) (hnl : news.length = size) (hk : ∀ j u, news[j]? = some u → w.cell? ⟨q, j, none⟩ = some u) (h1c : ∀ u ∈ news, u.oneCell' = true) (hl : n ≤ 1000000)
    (hK : ∀ a' c' w', RowG w' size a' (n + 1) c' (vs ++ news) → By.KF (blkO av) w w' → (∀ b, b ∈ blkO a' → b ∈ blkO av ∨ w.heap.size ≤ b) → wpList Try.prog ops Q rest (a.put o.dst (.slice a' (n + 1) c')) w') : wpList Try.prog ops Q (o :: rest) a w := by
  refine wpList_plain hg fun K' hK' => ?_
  exact By.wp_app_row s x t e ho hg i z size bytes h1 h2 h3 h4 h5 h6 h7 h8 av n cap vs news hs R hx hnl hk h1c hl (fun a' c' w' r1 r2 r3 => hK' _ _ (hK a' c' w' r1 r2 r3))
theorem info_sentS : (Try.prog.info? 55).map (fun i => (i.zero, i.size, i.bytes)) = some (some (.agg #[.int .i64 0, .int .i64 0, .int .i64 0, .int .i64 0, .int .i64 0, .int .i64 0]), 6, 48) := by kernel_rfl
theorem info_bys : (Try.prog.info? 34).map (fun i => (i.zero, i.size, i.bytes)) = some (some (.slice none 0 0), 1, 24) := by kernel_rfl
def lenOf : Value → Nat
  | .slice _ n _ => n
  | _ => 0
end Sh

theorem buildC_c (p : Pt) (a : Option Addr) (c : Nat) (w : World) (h : PtOk p.t p) (ht : 1 ≤ p.t ∧ p.t ≤ 16) (hy : Byt w a p.d.length c p.d) :
    Calls Try.prog 22 #[.agg #[.int .i64 p.x, .int .i64 p.t, .int .i64 p.C, .slice a p.d.length c]] w (BuildP p w) := by
  obtain ⟨_, hc0, hc1, hl, hb⟩ := h
  obtain ⟨b, off, hrow⟩ : ∃ b off, 0 < p.d.length → a = some ⟨b, off, none⟩ ∧ BytesAt w b off p.d.length (fun i => p.d.getD i 0) ∧ b < w.heap.size := by
    by_cases hp : 0 < p.d.length
    · obtain ⟨b, o, rfl, hb, hB⟩ := byt_at hy hp
      exact ⟨b, o, fun _ => ⟨rfl, hB, hb⟩⟩
    · exact ⟨0, 0, fun q => absurd q hp⟩
  have q := build_ok p.x p.t.toNat p.C.toNat a p.d.length c b off (fun i => p.d.getD i 0) w (by omega) (by omega) (by omega) hl hrow
  rw [show ((p.t.toNat : Nat) : Int) = p.t by omega, show ((p.C.toNat : Nat) : Int) = p.C by omega] at q
  refine q.mono ?_
  rintro e w' ⟨g, c', rfl, h1, h2, hown, h3, h4, hB⟩
  refine ⟨g, c', rfl, By.Byt.of_own hown (fun x hx => ?_) (bldD_len p).symm, h3, hB⟩
  obtain ⟨i, hi, rfl⟩ := List.getElem_of_mem hx
  have z := pkL_lt (t := p.t.toNat) (C := p.C.toNat) (n := p.d.length) (c := pkC p.t.toNat p.C.toNat p.d.length (fun i => p.d.getD i 0)) (f := fun i => p.d.getD i 0) (by omega) (by omega) (by omega) (by unfold pkC; omega) (fun j hj => by
    show p.d.getD j 0 < 256
    rw [List.getD_eq_getElem?_getD, List.getElem?_eq_getElem hj]
    exact hb _ (List.getElem_mem hj)) i
  change (bldD p).getD i 0 < 256 at z
  rw [List.getD_eq_getElem?_getD, List.getElem?_eq_getElem hi] at z
  exact z
end Go.Proofs.Ytkefkophlhcbiaa
