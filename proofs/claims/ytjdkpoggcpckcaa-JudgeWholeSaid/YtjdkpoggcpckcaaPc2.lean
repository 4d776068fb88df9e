/- Packets with what they hold: the document's Build and Parse. -/
import Derived.Test.YtjdkpoggcpckcaaPc1
import Derived.Test.YtjdkpoggcpckcaaPc3
namespace Go.Proofs.Ytjdkpoggcpckcaa
open Go.ChangeShapes Go.WideShapes Go.ChangeAt Go.RowKit
set_option linter.unusedVariables false
set_option linter.unusedSimpArgs false
open Pk BigFrame
open Bs (cellB)

set_option maxRecDepth 100000 in
set_option maxHeartbeats 4000000 in
theorem rbuild_bad (num t C : Int) (a : Option Addr) (n cap : Nat) (w : World) (hn : n ≤ 9223372036854775807) (h : t < 1 ∨ 16 < t ∨ C < 0 ∨ 255 < C ∨ 1492 < n) :
    Calls Try.prog 12 #[.agg #[.int .i64 num, .int .i64 t, .int .i64 C, .slice a n cap]] w fun e w' => (∃ x, e = .returned (.tuple #[.slice none 0 0, .int .i64 x]) ∧ x ≠ 0) ∧ Below w.heap.size w w' := by
  have hB : ∀ o, Below w.heap.size w (w.alloc o) := fun o => (Below.refl _ _).alloc (Nat.le_refl _) _
  by_cases h1 : t < 1
  · go_enter Try.func12, Try.ntmps12
    go_wp2_with fail
    go_ret2
    exact ⟨⟨2, rfl, by omega⟩, hB _⟩
  by_cases h2 : 16 < t
  · go_enter Try.func12, Try.ntmps12
    go_wp2_with fail
    go_ret2
    exact ⟨⟨2, rfl, by omega⟩, hB _⟩
  by_cases h3 : C < 0
  · go_enter Try.func12, Try.ntmps12
    go_wp2_with fail
    go_ret2
    exact ⟨⟨2, rfl, by omega⟩, hB _⟩
  by_cases h4 : 255 < C
  · go_enter Try.func12, Try.ntmps12
    go_wp2_with fail
    go_ret2
    exact ⟨⟨2, rfl, by omega⟩, hB _⟩
  · have h5 : (1492 : Int) < (n : Int) := by omega
    go_enter Try.func12, Try.ntmps12
    go_wp2_with fail
    go_ret2
    exact ⟨⟨3, rfl, by omega⟩, hB _⟩

set_option maxRecDepth 100000 in
set_option maxHeartbeats 4000000 in
theorem rbuild_ok (num : Int) (t C : Nat) (a : Option Addr) (n cap rb off : Nat) (f : Nat → Nat) (w : World) (h1 : 1 ≤ t) (h2 : t ≤ 16) (h3 : C ≤ 255) (h4 : n ≤ 1492) (hb : 0 < n → a = some ⟨rb, off, none⟩ ∧ BytesAt w rb off n f ∧ rb < w.heap.size) :
    Calls Try.prog 12 #[.agg #[.int .i64 num, .int .i64 (t : Nat), .int .i64 (C : Nat), .slice a n cap]] w fun e w' => ∃ g c, e = .returned (.tuple #[.slice (some ⟨g, 0, none⟩) (8 + n) c, .int .i64 0]) ∧ 8 + n ≤ c ∧ c ≤ 9223372036854775807 ∧ w'.ownsRow w.heap.size 5 1 (.slice (some ⟨g, 0, none⟩) (8 + n) c) (8 + n) (bvals (pkL t C n (pkC t C n f) f)) ∧ w.heap.size ≤ g ∧ g < w'.heap.size ∧ Below w.heap.size w w' := by
  obtain ⟨i0, hi0, hz0, hz1, hz2⟩ := info_parts info_u8
  have k1 : ¬ ((t : Int) < 1) := by omega
  have k2 : ¬ ((16 : Int) < (t : Int)) := by omega
  have k3 : ¬ ((C : Int) < 0) := by omega
  have k4 : ¬ ((255 : Int) < (C : Int)) := by omega
  have k5 : ¬ ((1492 : Int) < (n : Int)) := by omega
  have k6 : (n : Int) / 256 % 256 = (n : Int) / 256 := by omega
  have hown0 : ((w.alloc (.cells #[.int .i64 num, .int .i64 (t : Nat), .int .i64 (C : Nat), .slice a n cap] 29)).alloc (.cells #[.int .u8 105, .int .u8 (t : Nat), .int .u8 (C : Nat), .int .u8 0, .int .u8 ((n : Int) / 256), .int .u8 ((n : Int) % 256), .int .u8 0, .int .u8 0] 5)).ownsRow w.heap.size 5 1 (.slice (some ⟨w.heap.size + 1, 0, none⟩) 8 8) 8 (bvals [105, t, C, 0, n / 256, n % 256, 0, 0]) := by
    have := World.ownsRow_lit (base := w.heap.size) (e := 5) (size := 1) (w.alloc (.cells #[.int .i64 num, .int .i64 (t : Nat), .int .i64 (C : Nat), .slice a n cap] 29)) #[.int .u8 105, .int .u8 (t : Nat), .int .u8 (C : Nat), .int .u8 0, .int .u8 ((n : Int) / 256), .int .u8 ((n : Int) % 256), .int .u8 0, .int .u8 0] 8 (by simp) (by unfold maxLen; omega) (by rfl)
    rw [World.size_alloc] at this
    simpa [bvals] using this
  have hB0 : Below w.heap.size w ((w.alloc (.cells #[.int .i64 num, .int .i64 (t : Nat), .int .i64 (C : Nat), .slice a n cap] 29)).alloc (.cells #[.int .u8 105, .int .u8 (t : Nat), .int .u8 (C : Nat), .int .u8 0, .int .u8 ((n : Int) / 256), .int .u8 ((n : Int) % 256), .int .u8 0, .int .u8 0] 5)) := ((Below.refl _ _).alloc (Nat.le_refl _) _).alloc (by simp) _
  have hZ0 : w.heap.size ≤ ((w.alloc (.cells #[.int .i64 num, .int .i64 (t : Nat), .int .i64 (C : Nat), .slice a n cap] 29)).alloc (.cells #[.int .u8 105, .int .u8 (t : Nat), .int .u8 (C : Nat), .int .u8 0, .int .u8 ((n : Int) / 256), .int .u8 ((n : Int) % 256), .int .u8 0, .int .u8 0] 5)).heap.size := hB0.size
  have hcells : 0 < n → ∃ ad, a = some ad ∧ ∀ j u, (bvals ((List.range n).map f))[j]? = some u → ((w.alloc (.cells #[.int .i64 num, .int .i64 (t : Nat), .int .i64 (C : Nat), .slice a n cap] 29)).alloc (.cells #[.int .u8 105, .int .u8 (t : Nat), .int .u8 (C : Nat), .int .u8 0, .int .u8 ((n : Int) / 256), .int .u8 ((n : Int) % 256), .int .u8 0, .int .u8 0] 5)).cell? (ad.add j) = some u := fun hp => by
    obtain ⟨q1, q2, q3⟩ := hb hp
    refine ⟨_, q1, fun j u hu => ?_⟩
    have hj : j < n := by have := (List.getElem?_eq_some_iff.1 hu).1; simpa [bvals] using this
    simp [bvals, hj] at hu
    subst hu
    rw [Addr.add_lit]
    exact (hB0.cell (p := ⟨rb, off + j, none⟩) q3).trans (q2 j hj).1
  have hlen : (bvals ((List.range n).map f)).length = n * 1 := by simp [bvals]
  have hmx : 8 + n ≤ maxLen := by unfold maxLen; omega
  replace hb := Lib.hid hb
  go_enter Try.func12, Try.ntmps12
  go_wp2_with (at_builtin; refine wpList_append_any rfl _ _ 26 (by rfl) w.heap.size 5 i0 _ 1 1 Try.underlying26 hi0 hz0 hz1 hz2 (by rfl) (by omega) _ _ _ (by rfl) hown0 (by omega) a n cap _ (by rfl) hlen hcells (bvals_one _) hmx (by omega) hZ0 ?_; intro g cg w3 hown1 hgrow1 hg1 hg2 hg3 hg4)
  have hpk : bvals [105, t, C, 0, n / 256, n % 256, 0, 0] ++ bvals ((List.range n).map f) = bvals (pkL t C n 0 f) := by simp [bvals, pkL]
  rw [hpk] at hown1
  have hlt : ∀ i, (pkL t C n 0 f).getD i 0 < 256 := pkL_lt (by omega) (by omega) (by omega) (by omega) (fun i hi => ((hb.out (by omega)).2.1 i hi).2)
  have hby : BytesAt w3 g 0 (8 + n) (fun i => (pkL t C n 0 f).getD i 0) := fun i hi => by
    refine ⟨?_, hlt i⟩
    rw [Nat.zero_add, hown1.cellAt i (by omega)]
    exact bvals_at _ i (by rw [pkL_len]; omega)
  have hB3 : Below w.heap.size w w3 := hB0.grown hgrow1 hZ0 (fun k hk => by have := (hown0.lt k hk).1; omega)
  refine (rcheck_c g 0 (8 + n) cg _ w3 hg3 (by omega) hby).mono ?_
  rintro e w4 ⟨rfl, rfl⟩
  rw [show 65535 - ckS (tot (fun i => (pkL t C n 0 f).getD i 0) (8 + n)) = pkC t C n f from rfl]
  obtain ⟨c, hc⟩ : ∃ c, pkC t C n f = c := ⟨_, rfl⟩
  have hcl : c ≤ 65535 := by rw [← hc]; unfold pkC; omega
  rw [hc]
  have hown4 := hown1
  have hB4 := hB3
  have hg24 := hg2
  have m6 : w4.cell? ⟨g, 6, none⟩ = some (.int .u8 0) := (hown4.cellAt 6 (by omega)).trans ((bvals_at _ 6 (by rw [pkL_len]; omega)).trans (by simp [pkL]))
  have m7 : w4.cell? ⟨g, 7, none⟩ = some (.int .u8 0) := (hown4.cellAt 7 (by omega)).trans ((bvals_at _ 7 (by rw [pkL_len]; omega)).trans (by simp [pkL]))
  have n6 : w4.frozen? ⟨g, 6, none⟩ = false := hown4.frozenAt 6
  have n7 : w4.frozen? ⟨g, 7, none⟩ = false := hown4.frozenAt 7
  have k7 : (c : Int) / 256 % 256 = (c : Int) / 256 := by omega
  have k8 : (6 : Int) < ((8 + n : Nat) : Int) := by omega
  have k9 : (7 : Int) < ((8 + n : Nat) : Int) := by omega
  replace hown4 := Lib.hid hown4
  replace hown0 := Lib.hid hown0
  clear hown1 hby hlt hpk hcells
  go_wp2_with fail
  go_ret2
  have s1 := hown4.out.stored 6 (.int .u8 ((c : Int) / 256))
  have s2 := s1.1.stored 7 (.int .u8 ((c : Int) % 256))
  refine ⟨g, cg, rfl, hg3, by unfold maxLen at hg4; omega, ?_, hg1, by simpa using hg24, ((hB4.grown s1.2 (by have := hB4.size; omega) (fun k hk => by cases hk; exact hg1)).grown s2.2 (by have := hB4.size; simpa using this) (fun k hk => by cases hk; exact hg1))⟩
  have he : ((bvals (pkL t C n 0 f)).set 6 (.int .u8 ((c : Int) / 256))).set 7 (.int .u8 ((c : Int) % 256)) = bvals (pkL t C n c f) := by simp [bvals, pkL]
  rw [hc, ← he]
  exact s2.1

set_option maxRecDepth 100000 in
set_option maxHeartbeats 4000000 in
theorem rparse_short (a : Option Addr) (n cap : Nat) (w : World) (h : n < 8) :
    Calls Try.prog 6 #[.slice a n cap] w fun e w' => e = .returned (.tuple #[.agg #[.int .i64 0, .int .i64 0, .int .i64 0, .slice none 0 0], .int .i64 230]) ∧ Below w.heap.size w w' := by
  have k : (n : Int) < 8 := by omega
  go_enter Try.func6, Try.ntmps6
  go_wp2_with fail
  refine bodyPost_ret (v := .tuple #[.agg #[.int .i64 0, .int .i64 0, .int .i64 0, .slice none 0 0], .int .i64 230]) (by simp [results, Try.results6, go_sem]) rfl ⟨rfl, (Below.refl _ _).alloc (Nat.le_refl _) _⟩

end Go.Proofs.Ytjdkpoggcpckcaa
