/- Queues of packets with what they hold: copies, and whether two packets are the same. -/
import Derived.Test.YtndlldlanjhanaaQ8
import Derived.Test.YtndlldlanjhanaaBy
namespace Go.Proofs.Ytndlldlanjhanaa
open Go.ChangeShapes Go.WideShapes Go.ChangeAt Go.RowKit
set_option linter.unusedVariables false
set_option linter.unusedSimpArgs false
open BigFrame By Fq Bs

namespace Fp
/-- What a copy of a packet is. -/
def CopR (num t C : Int) (m : Nat) (d : List Nat) (u : World) (e : Ending) (u' : World) : Prop := ∃ a1 c1, e = .returned (.agg #[.int .i64 num, .int .i64 t, .int .i64 C, .slice a1 m c1]) ∧ (Byt u' a1 m c1 d ∧ Far u.heap.size a1 m) ∧ Below u.heap.size u u'
theorem kept_kf {w w' : World} {qb rb : Nat} (k : Kept w w' qb rb) : KF [qb, rb] w w' := ⟨k.bel 0 w (Below.refl 0 w) (Nat.zero_le _) (Nat.zero_le _), fun i h1 h2 => k.block i h1 (fun e => h2 (by simp [e])) (fun e => h2 (by simp [e]))⟩
theorem _root_.Go.Proofs.Ytndlldlanjhanaa.By.Byt.kept {w w' : World} {qb rb m n c : Nat} {a : Option Addr} {d : List Nat} (h : Byt w a n c d) (f : Far m a n) (h1 : qb < m) (h2 : rb < m) (k : Kept w w' qb rb) : Byt w' a n c d :=
  (kept_kf k).byt h (f.notin (fun q hq => by simp at hq; omega))
/-- Bytes as a string. -/
def bstrL (d : List Nat) : ByteArray := strOfNums (d.map fun x : Nat => (x : Int))
theorem conv_byt {w : World} {a : Option Addr} {n cap : Nat} {d : List Nat} (h : Byt w a n cap d) : (convert 23 9 (.slice a n cap)).run Try.prog w = .ok (.string (bstrL d)) w := by
  have hl := h.len
  by_cases hn : n = 0
  · subst hn
    obtain rfl : d = [] := List.eq_nil_of_length_eq_zero hl.symm
    cases a with
    | none => exact run_convert_bytes_nil w 23 5 Try.underlying23 Try.underlying5 _ _ _ Try.underlying9
    | some ad => exact run_convert_bytes_back w 23 9 5 ad cap [] Try.underlying23 Try.underlying5 Try.underlying9 (fun j hj => absurd hj (by simp))
  · obtain ⟨b, off, rfl, _, hb⟩ := h.row (by omega)
    refine run_convert_bytes_arg w 23 5 Try.underlying23 Try.underlying5 b off n cap _ (by simp [hl]) (fun i hi => ?_) _ Try.underlying9
    have hi2 : i < d.length := by omega
    rw [(hb i _ (List.getElem?_eq_getElem hi2)).1]
    simp [List.getD, hi2]
end Fp
open Fp

set_option maxRecDepth 100000 in
set_option maxHeartbeats 2000000 in
/-- Two packets that say the same are the same. -/
theorem rsameF_c (x t C : Int) (a1 a2 : Option Addr) (n c1 c2 : Nat) (d : List Nat) (w : World) (h1 : Byt w a1 n c1 d) (h2 : Byt w a2 n c2 d) :
    Calls Try.prog 17 #[.agg #[.int .i64 x, .int .i64 t, .int .i64 C, .slice a1 n c1], .agg #[.int .i64 x, .int .i64 t, .int .i64 C, .slice a2 n c2]] w fun e w' => e = .returned (.bool true) ∧ Below w.heap.size w w' := by
  have hB : Below w.heap.size w ((w.alloc (.cells #[.int .i64 x, .int .i64 t, .int .i64 C, .slice a1 n c1] 25)).alloc (.cells #[.int .i64 x, .int .i64 t, .int .i64 C, .slice a2 n c2] 25)) := ((Below.refl _ _).alloc (Nat.le_refl _) _).alloc (by simp) _
  have g1 := conv_byt (h1.bel hB)
  have g2 := conv_byt (h2.bel hB)
  clear h1 h2
  generalize bstrL d = S at g1 g2
  go_enter Try.func17, Try.ntmps17
  go_wp2_with fail
  exact bodyPost_ret (v := .bool true) (by simp [results, Try.results17, go_sem]) rfl ⟨rfl, hB⟩

set_option maxRecDepth 100000 in
set_option maxHeartbeats 2000000 in
theorem rcopyb_c (a : Option Addr) (n cap : Nat) (d : List Nat) (w : World) (h : Byt w a n cap d) (hn2 : n ≤ 1000000) :
    Calls Try.prog 29 #[.slice a n cap] w (CloB w n d) := by
  obtain ⟨i0, hi0, hz0, hz1, hz2⟩ := info_parts info_u8'
  have hown0 : w.ownsRow w.heap.size 5 1 (.slice none 0 0) 0 [] := World.ownsRow_nil w _ _ _
  have hcells : 0 < n → ∃ ad', a = some ad' ∧ ∀ j u, (bvals d)[j]? = some u → w.cell? (ad'.add j) = some u := fun hp => by
    obtain ⟨b, o, hh, hb, hc⟩ := h.row hp
    subst hh
    refine ⟨_, rfl, fun j u hu => ?_⟩
    obtain ⟨x, hx, rfl⟩ := bvals_at hu
    rw [Addr.add_lit]
    exact (hc j x hx).1
  have hlen : (bvals d).length = n * 1 := by rw [bvals_len, h.len]; omega
  have hmx : 0 + n ≤ maxLen := by unfold maxLen; omega
  have hlt := h.lt
  have hdl := h.len
  replace hlt := Lib.hid hlt
  replace hdl := Lib.hid hdl
  clear h
  go_enter Try.func29, Try.ntmps29
  go_wp2_with (at_builtin; refine wpList_append_src rfl _ _ 23 (by rfl) w.heap.size 5 i0 _ 1 1 Try.underlying23 hi0 hz0 hz1 hz2 (by rfl) (by omega) _ _ _ (by rfl) hown0 _ n cap _ (by rfl) hlen hcells (bvals_one _) hmx (by omega) (Nat.le_refl _) ?_; intro v1 w3 hown1 hgrow1 hat1)
  rw [Nat.zero_add, List.nil_append] at hown1
  have hB3 : Below w.heap.size w w3 := (Below.refl _ w).grown hgrow1 (Nat.le_refl _) (fun q hq => by cases hq)
  go_ret
  rcases hown1.2 with ⟨rfl, rfl⟩ | ⟨g, cap', cur, rfl, _⟩
  · have hd : d = [] := List.eq_nil_of_length_eq_zero hdl.out.symm
    subst hd
    exact ⟨_, _, rfl, Byt.nil _ _ _ (by omega), Far.zero _ _, hB3⟩
  · exact ⟨_, _, rfl, Byt.of_own hown1 hlt.out hdl.out, fun _ => ⟨g, 0, rfl, (hown1.lt g rfl).1⟩, hB3⟩

set_option maxRecDepth 100000 in
set_option maxHeartbeats 2000000 in
theorem copiedF_c (num t C : Int) (a : Option Addr) (n cap : Nat) (d : List Nat) (w : World) (h : Byt w a n cap d) (hn2 : n ≤ 1000000) :
    Calls Try.prog 23 #[.agg #[.int .i64 num, .int .i64 t, .int .i64 C, .slice a n cap]] w (CopR num t C n d w) := by
  have hB0 := ((Below.refl w.heap.size w).alloc (Nat.le_refl _) (.cells #[.int .i64 num, .int .i64 t, .int .i64 C, .slice a n cap] 25)).alloc (by simp) (.cells #[.int .i64 0, .int .i64 0, .int .i64 0, .slice none 0 0] 25)
  have hcl := Lib.hid (cloneB_c a n cap d _ (h.bel hB0) hn2)
  replace h := Lib.hid h
  go_enter Try.func23, Try.ntmps23
  go_wp2_with fail
  refine hcl.out.mono ?_
  rintro e w2 ⟨g, c, rfl, hy, hf, hb2⟩
  replace hy := Lib.hid hy
  replace hf := Lib.hid hf
  have hB2 := bNext hB0 hb2 (Nat.le_refl _)
  have hs2 := hb2.size
  rw [World.size_alloc, World.size_alloc] at hs2
  have p0 : w2.cell? ⟨w.heap.size, 0, none⟩ = some (.int .i64 num) := (hb2.cell (p := ⟨w.heap.size, 0, none⟩) (by simp; omega)).trans (by go_simp)
  have p1 : w2.cell? ⟨w.heap.size, 1, none⟩ = some (.int .i64 t) := (hb2.cell (p := ⟨w.heap.size, 1, none⟩) (by simp; omega)).trans (by go_simp)
  have p2 : w2.cell? ⟨w.heap.size, 2, none⟩ = some (.int .i64 C) := (hb2.cell (p := ⟨w.heap.size, 2, none⟩) (by simp; omega)).trans (by go_simp)
  have p3 : w2.cell? ⟨w.heap.size, 3, none⟩ = some (.slice a n cap) := (hb2.cell (p := ⟨w.heap.size, 3, none⟩) (by simp; omega)).trans (by go_simp)
  have pf : ∀ x, w2.frozen? ⟨w.heap.size, x, none⟩ = false := fun x => (hb2.frozen (p := ⟨w.heap.size, x, none⟩) (by simp; omega)).trans (by go_simp)
  have q0 : w2.cell? ⟨w.heap.size + 1, 0, none⟩ = some (.int .i64 0) := (hb2.cell (p := ⟨w.heap.size + 1, 0, none⟩) (by simp)).trans (by go_simp)
  have q1 : w2.cell? ⟨w.heap.size + 1, 1, none⟩ = some (.int .i64 0) := (hb2.cell (p := ⟨w.heap.size + 1, 1, none⟩) (by simp)).trans (by go_simp)
  have q2 : w2.cell? ⟨w.heap.size + 1, 2, none⟩ = some (.int .i64 0) := (hb2.cell (p := ⟨w.heap.size + 1, 2, none⟩) (by simp)).trans (by go_simp)
  have q3 : w2.cell? ⟨w.heap.size + 1, 3, none⟩ = some (.slice none 0 0) := (hb2.cell (p := ⟨w.heap.size + 1, 3, none⟩) (by simp)).trans (by go_simp)
  have qf : ∀ x, w2.frozen? ⟨w.heap.size + 1, x, none⟩ = false := fun x => (hb2.frozen (p := ⟨w.heap.size + 1, x, none⟩) (by simp)).trans (by go_simp)
  clear hb2 hcl
  have o3 : ∀ x, (w2.setCell ⟨w.heap.size, 3, none⟩ (.slice g n c)).cell? ⟨w.heap.size + 1, x, none⟩ = w2.cell? ⟨w.heap.size + 1, x, none⟩ := fun x => World.cell?_setCell_other _ _ _ _ (by simp)
  obtain ⟨s0, s1, s2, s3⟩ := Pk.set4 (.int .i64 num) (.int .i64 t) (.int .i64 C) (.slice g n c) ((o3 0).trans q0) ((o3 1).trans q1) ((o3 2).trans q2) ((o3 3).trans q3)
  have hB4 := Pk.below4 (hB2.setCell (p := ⟨w.heap.size, 3, none⟩) (Nat.le_refl _) (.slice g n c)) (show w.heap.size ≤ w.heap.size + 1 by omega) (.int .i64 num) (.int .i64 t) (.int .i64 C) (.slice g n c)
  have hF : Far (w.heap.size + 1 + 1) g n := by have := hf.out; simpa using this
  replace hF := Lib.hid hF
  go_wp2_with fail
  exact bodyPost_ret (v := .agg #[.int .i64 num, .int .i64 t, .int .i64 C, .slice g n c]) (by simp [results, Try.results23, go_sem, s0, s1, s2, s3]) rfl ⟨_, _, rfl, ⟨((((hy.out.setFar hF.out (by omega)).setFar hF.out (by omega)).setFar hF.out (by omega)).setFar hF.out (by omega)).setFar hF.out (by omega), hF.out.mono (by omega)⟩, hB4⟩

set_option maxRecDepth 100000 in
set_option maxHeartbeats 2000000 in
theorem rcopyF_c (num t C : Int) (a : Option Addr) (n cap : Nat) (d : List Nat) (w : World) (h : Byt w a n cap d) (hn2 : n ≤ 1000000) :
    Calls Try.prog 25 #[.agg #[.int .i64 num, .int .i64 t, .int .i64 C, .slice a n cap]] w (CopR num t C n d w) := by
  have hB0 := ((Below.refl w.heap.size w).alloc (Nat.le_refl _) (.cells #[.int .i64 num, .int .i64 t, .int .i64 C, .slice a n cap] 25)).alloc (by simp) (.cells #[.int .i64 0, .int .i64 0, .int .i64 0, .slice none 0 0] 25)
  have hcl := Lib.hid (rcopyb_c a n cap d _ (h.bel hB0) hn2)
  replace h := Lib.hid h
  go_enter Try.func25, Try.ntmps25
  go_wp2_with fail
  refine hcl.out.mono ?_
  rintro e w2 ⟨g, c, rfl, hy, hf, hb2⟩
  replace hy := Lib.hid hy
  replace hf := Lib.hid hf
  have hB2 := bNext hB0 hb2 (Nat.le_refl _)
  have hs2 := hb2.size
  rw [World.size_alloc, World.size_alloc] at hs2
  have p0 : w2.cell? ⟨w.heap.size, 0, none⟩ = some (.int .i64 num) := (hb2.cell (p := ⟨w.heap.size, 0, none⟩) (by simp; omega)).trans (by go_simp)
  have p1 : w2.cell? ⟨w.heap.size, 1, none⟩ = some (.int .i64 t) := (hb2.cell (p := ⟨w.heap.size, 1, none⟩) (by simp; omega)).trans (by go_simp)
  have p2 : w2.cell? ⟨w.heap.size, 2, none⟩ = some (.int .i64 C) := (hb2.cell (p := ⟨w.heap.size, 2, none⟩) (by simp; omega)).trans (by go_simp)
  have p3 : w2.cell? ⟨w.heap.size, 3, none⟩ = some (.slice a n cap) := (hb2.cell (p := ⟨w.heap.size, 3, none⟩) (by simp; omega)).trans (by go_simp)
  have pf : ∀ x, w2.frozen? ⟨w.heap.size, x, none⟩ = false := fun x => (hb2.frozen (p := ⟨w.heap.size, x, none⟩) (by simp; omega)).trans (by go_simp)
  have q0 : w2.cell? ⟨w.heap.size + 1, 0, none⟩ = some (.int .i64 0) := (hb2.cell (p := ⟨w.heap.size + 1, 0, none⟩) (by simp)).trans (by go_simp)
  have q1 : w2.cell? ⟨w.heap.size + 1, 1, none⟩ = some (.int .i64 0) := (hb2.cell (p := ⟨w.heap.size + 1, 1, none⟩) (by simp)).trans (by go_simp)
  have q2 : w2.cell? ⟨w.heap.size + 1, 2, none⟩ = some (.int .i64 0) := (hb2.cell (p := ⟨w.heap.size + 1, 2, none⟩) (by simp)).trans (by go_simp)
  have q3 : w2.cell? ⟨w.heap.size + 1, 3, none⟩ = some (.slice none 0 0) := (hb2.cell (p := ⟨w.heap.size + 1, 3, none⟩) (by simp)).trans (by go_simp)
  have qf : ∀ x, w2.frozen? ⟨w.heap.size + 1, x, none⟩ = false := fun x => (hb2.frozen (p := ⟨w.heap.size + 1, x, none⟩) (by simp)).trans (by go_simp)
  clear hb2 hcl
  have o3 : ∀ x, (w2.setCell ⟨w.heap.size, 3, none⟩ (.slice g n c)).cell? ⟨w.heap.size + 1, x, none⟩ = w2.cell? ⟨w.heap.size + 1, x, none⟩ := fun x => World.cell?_setCell_other _ _ _ _ (by simp)
  obtain ⟨s0, s1, s2, s3⟩ := Pk.set4 (.int .i64 num) (.int .i64 t) (.int .i64 C) (.slice g n c) ((o3 0).trans q0) ((o3 1).trans q1) ((o3 2).trans q2) ((o3 3).trans q3)
  have hB4 := Pk.below4 (hB2.setCell (p := ⟨w.heap.size, 3, none⟩) (Nat.le_refl _) (.slice g n c)) (show w.heap.size ≤ w.heap.size + 1 by omega) (.int .i64 num) (.int .i64 t) (.int .i64 C) (.slice g n c)
  have hF : Far (w.heap.size + 1 + 1) g n := by have := hf.out; simpa using this
  replace hF := Lib.hid hF
  go_wp2_with fail
  exact bodyPost_ret (v := .agg #[.int .i64 num, .int .i64 t, .int .i64 C, .slice g n c]) (by simp [results, Try.results25, go_sem, s0, s1, s2, s3]) rfl ⟨_, _, rfl, ⟨((((hy.out.setFar hF.out (by omega)).setFar hF.out (by omega)).setFar hF.out (by omega)).setFar hF.out (by omega)).setFar hF.out (by omega), hF.out.mono (by omega)⟩, hB4⟩

end Go.Proofs.Ytndlldlanjhanaa
