/- The shaper: acts; whether they are too many. -/
import Derived.Test.YtkefkophlhcbiaaS12
import Derived.Test.YtkefkophlhcbiaaOpen3
import Derived.SizedLaws
namespace Go.Proofs.Ytkefkophlhcbiaa
open Go.ChangeShapes Go.WideShapes Go.ChangeAt Go.RowKit Go.Deep
set_option linter.unusedVariables false
set_option linter.unusedSimpArgs false
open BigFrame Pk Sh Fa Fq Jw
open By (Byt RowG blkO)
open Fp (Pt PQ PqP)
open Bs (IntRows)

namespace Sh
/-- An act, by what it says. -/
structure Ac where
  k : Int
  t : Int
  n : Int
  a : Option Addr
  m : Nat
  c : Nat
  d : List Nat
/-- A row of acts. -/
structure AcAt (w : World) (a : Option Addr) (n : Nat) (f : Nat → Ac) : Prop where
  row : 0 < n → ∃ b off, a = some ⟨b, off, none⟩ ∧ b < w.heap.size ∧ ∀ i, i < n → w.cell? ⟨b, off + i * 4, none⟩ = some (.int .i64 (f i).k) ∧ w.cell? ⟨b, off + i * 4 + 1, none⟩ = some (.int .i64 (f i).t) ∧ w.cell? ⟨b, off + i * 4 + 2, none⟩ = some (.int .i64 (f i).n) ∧ w.cell? ⟨b, off + i * 4 + 3, none⟩ = some (.slice (f i).a (f i).m (f i).c)
  by_ : ∀ i, i < n → Byt w (f i).a (f i).m (f i).c (f i).d
theorem AcAt.bel {w w' : World} {a : Option Addr} {n : Nat} {f : Nat → Ac} (h : AcAt w a n f) (k : Below w.heap.size w w') : AcAt w' a n f :=
  ⟨fun hn => by
    obtain ⟨b, off, ha, hb, hc⟩ := h.row hn
    refine ⟨b, off, ha, Nat.lt_of_lt_of_le hb k.size, fun i hi => ?_⟩
    obtain ⟨h0, h1, h2, h3⟩ := hc i hi
    exact ⟨(k.cell (p := ⟨b, _, none⟩) hb).trans h0, (k.cell (p := ⟨b, _, none⟩) hb).trans h1, (k.cell (p := ⟨b, _, none⟩) hb).trans h2, (k.cell (p := ⟨b, _, none⟩) hb).trans h3⟩, fun i hi => (h.by_ i hi).bel k⟩
def GreatP (n : Nat) (f : Nat → Ac) (w : World) (e : Ending) (w' : World) : Prop := ∃ b : Bool, e = .returned (.bool b) ∧ (b = false → n ≤ 120 ∧ ∀ i, i < n → (f i).m ≤ 20000) ∧ Below w.heap.size w w'
end Sh

set_option maxRecDepth 100000 in
set_option maxHeartbeats 4000000 in
theorem great27_c (a : Option Addr) (n c : Nat) (f : Nat → Ac) (w : World) (h : AcAt w a n f) (hn : n ≤ c) (hc : c ≤ 9223372036854775807) (hsz : ∀ i, i < n → (f i).m ≤ reachBytes) :
    Calls Try.prog 6 #[.slice a n c] w (GreatP n f w) := by
  have b1 : (n : Int) ≤ 9223372036854775807 := by omega
  have hrb : reachBytes = 140737488351232 := rfl
  rw [hrb] at hsz
  clear hrb
  replace h := Lib.hid h
  replace hsz := Lib.hid hsz
  go_enter Try.func6, Try.ntmps6
  go_wp2_with fail
  go_loopw [3, 4, 7] (fun s _ i wr => ∃ k : Nat, k ≤ n ∧ k ≤ 120 ∧ i = .int .i64 (k : Nat) ∧ (∃ x : Int, s = .int .i64 x ∧ 0 ≤ x ∧ x ≤ 20000 ∧ RowKit.Hid (∀ j, j < k → ((f j).m : Int) ≤ x)) ∧ RowKit.Hid (Below w.heap.size w wr)) (fun _ _ i _ => n - (intOf i).toNat)
  case atStart => exact ⟨0, by omega, by omega, rfl, ⟨_, rfl, by omega, by omega, Lib.hid (fun j hj => by omega)⟩, Lib.hid (Below.refl _ _)⟩
  case round =>
    obtain ⟨k, hk, hk2, rfl, ⟨s, rfl, hs0, hs1, hsy⟩, hB⟩ := hrel
    by_cases hlt : k < n
    · have hlt' : (k : Int) < (n : Int) := by omega
      obtain ⟨b, o, rfl, hb, hc4⟩ := (h.out.bel hB.out).row (by omega)
      obtain ⟨_, _, _, x3⟩ := hc4 k hlt
      have hdl := hsz.out k hlt
      obtain ⟨xa, hxa⟩ : ∃ y, RowKit.Hid ((f k).a = y) := ⟨_, Lib.hid rfl⟩
      obtain ⟨xm, hxm⟩ : ∃ y, RowKit.Hid ((f k).m = y) := ⟨_, Lib.hid rfl⟩
      obtain ⟨xc, hxc⟩ : ∃ y, RowKit.Hid ((f k).c = y) := ⟨_, Lib.hid rfl⟩
      rw [hxa.out, hxm.out, hxc.out] at x3
      rw [hxm.out] at hdl
      have hdlI : (xm : Int) ≤ 140737488351232 := by omega
      have hnew := Lib.hid (show ∀ j, j < k + 1 → ((f j).m : Int) ≤ s + (xm : Int) from fun j hj => by
        rcases Nat.lt_or_ge j k with q | q
        · have := hsy.out j q; omega
        · obtain rfl : j = k := by omega
          rw [hxm.out]; omega)
      clear hc4 hdl
      by_cases hge : 120 ≤ k
      · have hge' : (120 : Int) ≤ (k : Int) := by omega
        go_wp2_with fail
        go_ret
        exact ⟨true, rfl, (fun hh => by cases hh), hB.out⟩
      · have hge' : ¬ (120 : Int) ≤ (k : Int) := by omega
        by_cases hbig : 20000 < s + (xm : Int)
        · go_wp2_with fail
          go_ret
          exact ⟨true, rfl, (fun hh => by cases hh), hB.out⟩
        · go_wp2_with fail
          go_roundw
          case rel => exact ⟨k + 1, by omega, by omega, by go_num, ⟨_, rfl, by omega, by omega, hnew⟩, hB⟩
          case measure => simp [intOf]; omega
    · obtain rfl : k = n := by omega
      go_wp2_with fail
      go_ret
      exact ⟨false, rfl, fun _ => ⟨hk2, fun i hi => by have := hsy.out i hi; omega⟩, hB.out⟩
namespace Sh
theorem own_len {w : World} {B : Nat} {e : TypeId} {size m : Nat} {a : Option Addr} {n c : Nat} {vs : List Value} (h : w.ownsRow B e size (.slice a n c) m vs) : n = m := by
  rcases h.2 with ⟨e1, e2⟩ | ⟨g, cap, cur, e1, _⟩
  · cases e1; exact e2.symm
  · cases e1; rfl
theorem own_slice {w : World} {B : Nat} {e : TypeId} {size m : Nat} {v : Value} {vs : List Value} (h : w.ownsRow B e size v m vs) : ∃ a c, v = .slice a m c := by
  rcases h.2 with ⟨e1, e2⟩ | ⟨g, cap, cur, e1, _⟩
  · subst e2; exact ⟨_, _, e1⟩
  · exact ⟨_, _, e1⟩
/-- What stands between acts. -/
structure LA (I : Ids) (w0 w : World) (k tk : Nat) (vi vo vb : Value) (G : Gs) (ins : List Iv) (out : List (Nat × Pt)) (vs : List Value) (kd : Nat → Nat) : Prop where
  l : LW I w0 w G G.tok tk vi vo vb ins out out vs kd
  i : WI I G ins out
  x : ∀ iv, iv ∈ ins → Byt w0 iv.a iv.n iv.c iv.d ∧ iv.n ≤ 20000
  n : G.n ≤ k ∧ ins.length ≤ k
  t : ∀ i, i < 17 → G.tok i ≤ (k : Int) * 1000000
def LAe (I : Ids) (w0 w : World) (k tk : Nat) (vi vo vb : Value) : Prop := ∃ G ins out vs kd, LA I w0 w k tk vi vo vb G ins out vs kd
theorem LA.up {I : Ids} {w0 w : World} {k k2 tk : Nat} {vi vo vb : Value} {G : Gs} {ins : List Iv} {out : List (Nat × Pt)} {vs : List Value} {kd : Nat → Nat} (h : LA I w0 w k tk vi vo vb G ins out vs kd) (hk : k ≤ k2) : LA I w0 w k2 tk vi vo vb G ins out vs kd :=
  ⟨h.l, h.i, h.x, ⟨by have := h.n.1; omega, by have := h.n.2; omega⟩, fun i hi => by
    have h1 := h.t i hi
    have h2 : (k : Int) * 1000000 ≤ (k2 : Int) * 1000000 := by omega
    omega⟩
/-- Tokens fall as packets go out. -/
theorem run_tok {I : Ids} {G G1 : Gs} {out : List (Nat × Pt)} (r : Run I G out G1) (i : Nat) : G1.tok i ≤ G.tok i := by
  induction r with
  | nil => exact Int.le_refl _
  | snoc r st ih =>
    rename_i G1 out k p l
    show Sh.up G1.tok (I.T k).toNat (G1.tok (I.T k).toNat - (8 + (p.d.length : Int))) i ≤ _
    unfold Sh.up
    split
    · rename_i e
      subst e
      omega
    · exact ih
theorem done_tok {I : Ids} {G1 G2 : Gs} (d : Done I G1 G2) : G2.tok = G1.tok ∧ G2.Q = G1.Q ∧ G2.came = G1.came ∧ G2.n = G1.n := by
  rcases d with ⟨_, rfl⟩ | ⟨_, _, rfl⟩
  · exact ⟨rfl, rfl, rfl, rfl⟩
  · exact ⟨rfl, rfl, rfl, rfl⟩
theorem run_n {I : Ids} {G G1 : Gs} {out : List (Nat × Pt)} (r : Run I G out G1) : G1.n = G.n ∧ G1.came = G.came := by
  induction r with
  | nil => exact ⟨rfl, rfl⟩
  | snoc r st ih => exact ih
/-- What went out, up to one packet. -/
theorem run_take {I : Ids} {G G1 : Gs} {out : List (Nat × Pt)} (r : Run I G out G1) : ∀ j kp, out[j]? = some kp → ∃ Gj l, Run I G (out.take j) Gj ∧ Step I Gj kp.1 kp.2 l ∧ Run I G (out.take (j + 1)) (popG I Gj kp.1 kp.2 l) := by
  induction r with
  | nil => intro j kp h; simp at h
  | snoc r st ih =>
    rename_i G1 out k p l
    intro j kp h
    by_cases e : j < out.length
    · rw [List.getElem?_append_left e] at h
      obtain ⟨Gj, l', h1, h2, h3⟩ := ih j kp h
      refine ⟨Gj, l', ?_, h2, ?_⟩
      · rw [List.take_append_of_le_length (by omega)]; exact h1
      · rw [List.take_append_of_le_length (by omega)]; exact h3
    · have hj := (List.getElem?_eq_some_iff.1 h).1
      rw [List.length_append, List.length_singleton] at hj
      obtain rfl : j = out.length := by omega
      rw [List.getElem?_append_right (Nat.le_refl _), Nat.sub_self] at h
      simp at h
      subst h
      refine ⟨G1, l, ?_, st, ?_⟩
      · rw [List.take_append_of_le_length (Nat.le_refl _), List.take_length]; exact r
      · rw [List.take_of_length_le (by simp)]; exact .snoc r st
theorem run_det {I : Ids} {G G1 G2 : Gs} {out : List (Nat × Pt)} (r : Run I G out G1) (r2 : Run I G out G2) : G1 = G2 := by
  induction r generalizing G2 with
  | nil =>
    rcases run_first r2 with ⟨_, e⟩ | ⟨k, p, l, o, _, _, e⟩
    · exact e.symm
    · cases e
  | snoc r st ih =>
    rename_i Ga out k p l
    generalize ho : out ++ [(k, p)] = o2 at r2
    cases r2 with
    | nil => simp at ho
    | snoc r' st' =>
      rename_i Gb out' k' p' l'
      obtain ⟨e1, e2⟩ := List.append_inj' ho rfl
      subst e1
      obtain rfl : Ga = Gb := ih r'
      simp at e2
      obtain ⟨rfl, rfl⟩ := e2
      have q1 := st.2.2.2.2.1
      have q2 := st'.2.2.2.2.1
      rw [q1] at q2
      cases q2
      rfl
theorem run_pk {I : Ids} {G G1 : Gs} {out : List (Nat × Pt)} (r : Run I G out G1) (h : ∀ i, i < I.N → ∀ p, p ∈ G.Q i → PtOk (I.T i) p) : ∀ i, i < I.N → ∀ p, p ∈ G1.Q i → PtOk (I.T i) p := by
  induction r with
  | nil => exact h
  | snoc r st ih =>
    rename_i G1 out k p l
    intro i hi q hq
    have hq' : q ∈ upQ G1.Q k l i := hq
    unfold upQ at hq'
    by_cases e : i = k
    · subst e
      simp only [if_true] at hq'
      exact ih i hi q (by rw [st.2.2.2.2.1]; exact List.mem_cons_of_mem _ hq')
    · simp only [if_neg e] at hq'
      exact ih i hi q hq'
theorem sentC_one (l : List (Nat × Pt)) : ∀ u ∈ sentC l, u.oneCell' = true := by
  induction l with
  | nil => intro u hu; simp [sentC] at hu
  | cons x l ih =>
    obtain ⟨k, p⟩ := x
    intro u hu
    simp only [sentC] at hu
    rcases List.mem_append.1 hu with z | z
    · simp at z
      rcases z with rfl | rfl | rfl | rfl | rfl <;> rfl
    · exact ih u z
theorem OutR.one {w : World} {B : Nat} {la lb : Option Addr} {ca cb : Nat} {out : List (Nat × Pt)} {vs : List Value} (h : OutR w B la ca lb cb out vs) : ∀ u ∈ vs, u.oneCell' = true := fun u hu => by
  obtain ⟨i, hi, rfl⟩ := List.getElem_of_mem hu
  have hl := h.b.len
  obtain ⟨g, c, h1, _⟩ := h.y i _ (List.getElem?_eq_getElem (show i < out.length by omega))
  rw [List.getElem?_eq_getElem hi] at h1
  injection h1 with h1
  rw [h1]
  rfl
theorem RowG.src {w : World} {size n cap : Nat} {a : Option Addr} {vs : List Value} (h : RowG w size a n cap vs) : 0 < n → ∃ ad, a = some ad ∧ ∀ j u, vs[j]? = some u → w.cell? (ad.add j) = some u := fun hn => by
  cases a with
  | none => have := (h.nil rfl).1; omega
  | some ad =>
    obtain ⟨b, off, rfl, _, h1, _, _⟩ := h.row ad rfl
    exact ⟨_, rfl, fun j u hu => by rw [Addr.add_lit]; exact h1 j u hu⟩
end Sh
end Go.Proofs.Ytkefkophlhcbiaa
