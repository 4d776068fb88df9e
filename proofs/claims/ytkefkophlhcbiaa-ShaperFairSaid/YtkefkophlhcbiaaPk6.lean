/- The contract of packet.Parse. -/
import Derived.Test.YtkefkophlhcbiaaPk5
import Derived.Deep.RegionLaw
namespace Go.Proofs.Ytkefkophlhcbiaa
open Go.ChangeShapes Go.WideShapes Go.ChangeAt Go.RowKit
set_option linter.unusedVariables false
set_option linter.unusedSimpArgs false
open Pk BigFrame

namespace Pk
/-- 'append(nil, x...)' as one step of a region that draws. -/
theorem step_append_nil {P : Program} {w : World} {ops : Array Oper} {o : Oper} {a : Act} {K : Act → World → Prop} {Q : Exit → Act → World → Prop} {E : Prop} (hgd : o.guard = none) (s x : Operand) (t : TypeId)
    (ho : o.op = .call { callee := .builtin .append, args := #[s, x], argTypes := #[t, t] })
    (base : Nat) (e : TypeId) (i : TypeInfo) (z : Value) (size bytes : Nat) (ht : P.underlying t = some (.slice e)) (hi : P.info? e = some i) (hz : i.zero = some z)
    (hsize : i.size = size) (hby : i.bytes = bytes) (hzs : z.cells.size = size) (hsz : 0 < size) (hs : a.eval s = .slice none 0 0)
    (b : Option Addr) (m c : Nat) (news : List Value) (hx : a.eval x = .slice b m c) (hl : news.length = m * size) (hnews : 0 < m → ∃ ad, b = some ad ∧ ∀ j u, news[j]? = some u → w.cell? (ad.add j) = some u) (h1 : ∀ u ∈ news, u.oneCell' = true)
    (h63 : 0 + m ≤ maxLen) (hbytes : (0 + m) * bytes ≤ 140737488355328) (hbase : base ≤ w.heap.size)
    (h : ∀ a1 k1 w', w'.ownsRow base e size (.slice a1 m k1) m news → (m = 0 → a1 = none ∧ k1 = 0) → Below base w w' → K (a.put o.dst (.slice a1 m k1)) w') :
    if Region.wanted o (yielded ops a.tmps) = true then Oper.wp P o a w K Q else E := by
  by_cases hm : m = 0
  · subst hm
    obtain rfl : news = [] := by simpa using hl
    have hw : Region.wanted o (yielded ops a.tmps) = true := by simp [Region.wanted, hgd]
    rw [if_pos hw]
    have hrun := run_append_zero (P := P) w base t o.type e i size ht hi (.slice none 0 0) 0 [] (World.ownsRow_nil _ _ _ _) b c
    have hq := h none 0 w (World.ownsRow_nil _ _ _ _) (fun _ => ⟨rfl, rfl⟩) (Below.refl _ _)
    unfold Oper.wp
    simp [execOp, ho, resolve, invoke, builtin, hs, hx, hrun, Result.andThen]
    exact hq
  · obtain ⟨ad, rfl, hcells⟩ := hnews (by omega)
    refine step_append_lies w hgd s x t ho base e i z size bytes ht hi hz hsize hby hzs hsz _ 0 [] hs (World.ownsRow_nil _ _ _ _) ad m c news hx hl hcells h1 (by omega) h63 hbytes hbase _ rfl (fun g cap w' h2 h3 h4 h5 => ?_)
    rw [Nat.zero_add] at h2 ⊢
    exact h _ _ w' (by simpa using h2) (fun hh => absurd hh hm) ((Below.refl _ _).grown h3 hbase (fun k hk => by cases hk))
/-- The bytes behind the head. -/
def tailV (F : Nat → Nat) (m : Nat) : List Value := bvals ((List.range m).map fun i => F (8 + i))
theorem tailV_len (F : Nat → Nat) (m : Nat) : (tailV F m).length = m * 1 := by simp [tailV, bvals]
theorem and_ne (a b : Nat) (ha : a < 256) (hb : b < 256) (h : ¬ (a = 255 ∧ b = 255)) : (bits .and .u8 (a : Int) (b : Int) == 255) = false := by
  rw [u8_and_nat a b ha hb]
  have h1 : a &&& b ≤ a := Nat.and_le_left
  have h2 : a &&& b ≤ b := Nat.and_le_right
  have : ¬ (a &&& b = 255) := by omega
  simp
  omega
theorem or_i64 (a b : Nat) (ha : a < 256) (hb : b < 256) : bits .or .i64 ((a : Int) * 256) (b : Int) = (a : Int) * 256 + (b : Int) := by
  have h1 := (bits_nat .i64 62 (by decide) (fun n h0 h1 => by rw [IntKind.wrap_i64]; omega) (a * 256) b (by omega) (by omega)).2
  rw [or_words a b hb] at h1
  have e1 : ((a * 256 : Nat) : Int) = (a : Int) * 256 := by omega
  have e2 : ((a * 256 + b : Nat) : Int) = (a : Int) * 256 + (b : Int) := by rw [Int.natCast_add, e1]
  rw [e1, e2] at h1
  exact h1
theorem set4 {W : World} {b : Nat} {x0 x1 x2 x3 : Value} (v0 v1 v2 v3 : Value) (h0 : W.cell? ⟨b, 0, none⟩ = some x0) (h1 : W.cell? ⟨b, 1, none⟩ = some x1) (h2 : W.cell? ⟨b, 2, none⟩ = some x2) (h3 : W.cell? ⟨b, 3, none⟩ = some x3) :
    ((((W.setCell ⟨b, 0, none⟩ v0).setCell ⟨b, 1, none⟩ v1).setCell ⟨b, 2, none⟩ v2).setCell ⟨b, 3, none⟩ v3).cell? ⟨b, 0, none⟩ = some v0 ∧
    ((((W.setCell ⟨b, 0, none⟩ v0).setCell ⟨b, 1, none⟩ v1).setCell ⟨b, 2, none⟩ v2).setCell ⟨b, 3, none⟩ v3).cell? ⟨b, 1, none⟩ = some v1 ∧
    ((((W.setCell ⟨b, 0, none⟩ v0).setCell ⟨b, 1, none⟩ v1).setCell ⟨b, 2, none⟩ v2).setCell ⟨b, 3, none⟩ v3).cell? ⟨b, 2, none⟩ = some v2 ∧
    ((((W.setCell ⟨b, 0, none⟩ v0).setCell ⟨b, 1, none⟩ v1).setCell ⟨b, 2, none⟩ v2).setCell ⟨b, 3, none⟩ v3).cell? ⟨b, 3, none⟩ = some v3 := by
  have o : ∀ (U : World) (i j : Nat) (u : Value), i ≠ j → (U.setCell ⟨b, j, none⟩ u).cell? ⟨b, i, none⟩ = U.cell? ⟨b, i, none⟩ := fun U i j u h => World.cell?_setCell_other _ _ _ _ (by simp <;> omega)
  refine ⟨?_, ?_, ?_, ?_⟩
  · rw [o _ _ _ _ (by omega), o _ _ _ _ (by omega), o _ _ _ _ (by omega)]; exact World.cell?_setCell_same _ _ _ h0
  · rw [o _ _ _ _ (by omega), o _ _ _ _ (by omega)]; exact World.cell?_setCell_same _ _ _ ((o _ _ _ _ (by omega)).trans h1)
  · rw [o _ _ _ _ (by omega)]; exact World.cell?_setCell_same _ _ _ ((o _ _ _ _ (by omega)).trans ((o _ _ _ _ (by omega)).trans h2))
  · exact World.cell?_setCell_same _ _ _ ((o _ _ _ _ (by omega)).trans ((o _ _ _ _ (by omega)).trans ((o _ _ _ _ (by omega)).trans h3)))
theorem below4 {B : Nat} {A W : World} {b : Nat} (h : Below B A W) (hb : B ≤ b) (v0 v1 v2 v3 : Value) : Below B A ((((W.setCell ⟨b, 0, none⟩ v0).setCell ⟨b, 1, none⟩ v1).setCell ⟨b, 2, none⟩ v2).setCell ⟨b, 3, none⟩ v3) :=
  (((h.setCell (p := ⟨b, 0, none⟩) hb _).setCell (p := ⟨b, 1, none⟩) hb _).setCell (p := ⟨b, 2, none⟩) hb _).setCell (p := ⟨b, 3, none⟩) hb _
end Pk

set_option maxRecDepth 100000 in
set_option maxHeartbeats 4000000 in
theorem parse_short (a : Option Addr) (n cap : Nat) (w : World) (h : n < 8) :
    Calls Try.prog 26 #[.slice a n cap] w fun e w' => e = .returned (.tuple #[.agg #[.int .i64 0, .int .i64 0, .int .i64 0, .slice none 0 0], .int .i64 230]) ∧ Below w.heap.size w w' := by
  have k : (n : Int) < 8 := by omega
  go_enter Try.func26, Try.ntmps26
  go_wp2_with fail
  refine bodyPost_ret (v := .tuple #[.agg #[.int .i64 0, .int .i64 0, .int .i64 0, .slice none 0 0], .int .i64 230]) (by simp [results, Try.results26, go_sem]) rfl ⟨rfl, (Below.refl _ _).alloc (Nat.le_refl _) _⟩

set_option maxRecDepth 100000 in
set_option maxHeartbeats 4000000 in
theorem parse_bad (b o n cap : Nat) (F : Nat → Nat) (w : World) (h8 : 8 ≤ n) (hcap : n ≤ cap) (hc2 : cap ≤ 9223372036854775807) (hb : BytesAt w b o n F) (hbl : b < w.heap.size) (hck : ckS (tot F n) ≠ 65535) :
    Calls Try.prog 26 #[.slice (some ⟨b, o, none⟩) n cap] w fun e w' => e = .returned (.tuple #[.agg #[.int .i64 0, .int .i64 0, .int .i64 0, .slice none 0 0], .int .i64 230]) ∧ Below w.heap.size w w' := by
  have k : ¬ (n : Int) < 8 := by omega
  obtain ⟨c0, f0⟩ := hb 0 (by omega)
  obtain ⟨c1, f1⟩ := hb 1 (by omega)
  obtain ⟨c3, f3⟩ := hb 3 (by omega)
  obtain ⟨c4, f4⟩ := hb 4 (by omega)
  obtain ⟨c5, f5⟩ := hb 5 (by omega)
  rw [Nat.add_zero] at c0
  have k0 : (0 : Int) < (n : Int) := by omega
  have k1 : (1 : Int) < (n : Int) := by omega
  have k3 : (3 : Int) < (n : Int) := by omega
  have k4 : (4 : Int) < (n : Int) := by omega
  have k5 : (5 : Int) < (n : Int) := by omega
  have cc := fun u (hu : BytesAt u b o n F) => check_c b o n cap F u hcap hc2 hu
  have hbA := fun (m : Nat) (ob : Obj) => (show BytesAt ((w.alloc ob).drewN m) b o n F from fun i hi => ⟨((bDrew ((Below.refl w.heap.size w).alloc (Nat.le_refl _) ob) m).cell (p := ⟨b, o + i, none⟩) hbl).trans (hb i hi).1, (hb i hi).2⟩)
  replace hb := Lib.hid hb
  replace hck := Lib.hid hck
  by_cases h1 : 1500 < n
  · have h1' : (1500 : Int) < (n : Int) := by omega
    go_enter Try.func26, Try.ntmps26
    go_wp2_with fail
    refine bodyPost_ret (v := .tuple #[.agg #[.int .i64 0, .int .i64 0, .int .i64 0, .slice none 0 0], .int .i64 230]) (by simp [results, Try.results26, go_sem]) rfl ⟨rfl, (Below.refl _ _).alloc (Nat.le_refl _) _⟩
  have h1' : ¬ (1500 : Int) < (n : Int) := by omega
  by_cases h2 : F 0 ≠ 105
  · have h2' : (((F 0 : Nat) : Int) == 105) = false := by simp; omega
    have h2'' : (((F 0 : Nat) : Int) != 105) = true := by simp; omega
    go_enter Try.func26, Try.ntmps26
    go_wp2_with fail
    refine bodyPost_ret (v := .tuple #[.agg #[.int .i64 0, .int .i64 0, .int .i64 0, .slice none 0 0], .int .i64 230]) (by simp [results, Try.results26, go_sem]) rfl ⟨rfl, (Below.refl _ _).alloc (Nat.le_refl _) _⟩
  replace h2 : F 0 = 105 := by omega
  rw [h2] at c0
  by_cases h3 : F 1 < 1
  · have h3' : ((F 1 : Nat) : Int) < 1 := by omega
    go_enter Try.func26, Try.ntmps26
    go_wp2_with fail
    refine bodyPost_ret (v := .tuple #[.agg #[.int .i64 0, .int .i64 0, .int .i64 0, .slice none 0 0], .int .i64 230]) (by simp [results, Try.results26, go_sem]) rfl ⟨rfl, (Below.refl _ _).alloc (Nat.le_refl _) _⟩
  have h3' : ¬ ((F 1 : Nat) : Int) < 1 := by omega
  by_cases h4 : 16 < F 1
  · have h4' : 16 < ((F 1 : Nat) : Int) := by omega
    go_enter Try.func26, Try.ntmps26
    go_wp2_with fail
    refine bodyPost_ret (v := .tuple #[.agg #[.int .i64 0, .int .i64 0, .int .i64 0, .slice none 0 0], .int .i64 230]) (by simp [results, Try.results26, go_sem]) rfl ⟨rfl, (Below.refl _ _).alloc (Nat.le_refl _) _⟩
  have h4' : ¬ 16 < ((F 1 : Nat) : Int) := by omega
  by_cases h5 : F 3 ≠ 0
  · have h5' : (((F 3 : Nat) : Int) == 0) = false := by simp; omega
    have h5'' : (((F 3 : Nat) : Int) != 0) = true := by simp; omega
    go_enter Try.func26, Try.ntmps26
    go_wp2_with fail
    refine bodyPost_ret (v := .tuple #[.agg #[.int .i64 0, .int .i64 0, .int .i64 0, .slice none 0 0], .int .i64 230]) (by simp [results, Try.results26, go_sem]) rfl ⟨rfl, (Below.refl _ _).alloc (Nat.le_refl _) _⟩
  replace h5 : F 3 = 0 := by omega
  rw [h5] at c3
  have ho := or_i64 (F 4) (F 5) f4 f5
  by_cases h6 : F 4 * 256 + F 5 = n - 8
  · have h6' : (((F 4 : Nat) : Int) * 256 + ((F 5 : Nat) : Int) != (n : Int) - 8) = false := by simp; omega
    go_enter Try.func26, Try.ntmps26
    go_wp2_with fail
    go_big_quiet (fail)
    have hcb := hbA nq (.cells #[.int .i64 0, .int .i64 0, .int .i64 0, .slice none 0 0] 38)
    have z0 : ((w.alloc (.cells #[.int .i64 0, .int .i64 0, .int .i64 0, .slice none 0 0] 38)).drewN nq).cell? ⟨w.heap.size, 0, none⟩ = some (.int .i64 0) := by go_simp
    have z1 : ((w.alloc (.cells #[.int .i64 0, .int .i64 0, .int .i64 0, .slice none 0 0] 38)).drewN nq).cell? ⟨w.heap.size, 1, none⟩ = some (.int .i64 0) := by go_simp
    have z2 : ((w.alloc (.cells #[.int .i64 0, .int .i64 0, .int .i64 0, .slice none 0 0] 38)).drewN nq).cell? ⟨w.heap.size, 2, none⟩ = some (.int .i64 0) := by go_simp
    have z3 : ((w.alloc (.cells #[.int .i64 0, .int .i64 0, .int .i64 0, .slice none 0 0] 38)).drewN nq).cell? ⟨w.heap.size, 3, none⟩ = some (.slice none 0 0) := by go_simp
    have zf : ∀ o, ((w.alloc (.cells #[.int .i64 0, .int .i64 0, .int .i64 0, .slice none 0 0] 38)).drewN nq).frozen? ⟨w.heap.size, o, none⟩ = false := fun o => by go_simp
    have hB := bDrew ((Below.refl w.heap.size w).alloc (Nat.le_refl _) (.cells #[.int .i64 0, .int .i64 0, .int .i64 0, .slice none 0 0] 38)) nq
    generalize (w.alloc (.cells #[.int .i64 0, .int .i64 0, .int .i64 0, .slice none 0 0] 38)).drewN nq = U at z0 z1 z2 z3 zf hB hcb ⊢
    go_wp2_with fail
    refine (cc _ hcb).mono ?_
    rintro e w4 ⟨rfl, m, rfl⟩
    have hk := ckS_le (tot F n)
    obtain ⟨K, hK⟩ : ∃ K, 65535 - ckS (tot F n) = K := ⟨_, rfl⟩
    have hK0 : K ≠ 0 := by have := hck.out; omega
    rw [hK]
    have hKb : (((K : Nat) : Int) != 0) = true := by simp; omega
    replace z0 : (U.drewN m).cell? ⟨w.heap.size, 0, none⟩ = some (.int .i64 0) := by simpa using z0
    replace z1 : (U.drewN m).cell? ⟨w.heap.size, 1, none⟩ = some (.int .i64 0) := by simpa using z1
    replace z2 : (U.drewN m).cell? ⟨w.heap.size, 2, none⟩ = some (.int .i64 0) := by simpa using z2
    replace z3 : (U.drewN m).cell? ⟨w.heap.size, 3, none⟩ = some (.slice none 0 0) := by simpa using z3
    replace zf : ∀ o, (U.drewN m).frozen? ⟨w.heap.size, o, none⟩ = false := fun o => by simpa using zf o
    replace hB := bDrew hB m
    generalize U.drewN m = U2 at z0 z1 z2 z3 zf hB ⊢
    clear hcb hbA
    go_wp2_with fail
    obtain ⟨s0, s1, s2, s3⟩ := set4 (.int .i64 0) (.int .i64 0) (.int .i64 0) (.slice none 0 0) z0 z1 z2 z3
    refine bodyPost_ret (v := .tuple #[.agg #[.int .i64 0, .int .i64 0, .int .i64 0, .slice none 0 0], .int .i64 230]) (by simp [results, Try.results26, go_sem, s0, s1, s2, s3]) rfl ⟨rfl, below4 hB (Nat.le_refl _) _ _ _ _⟩
  · have h6' : (((F 4 : Nat) : Int) * 256 + ((F 5 : Nat) : Int) != (n : Int) - 8) = true := by simp; omega
    go_enter Try.func26, Try.ntmps26
    go_wp2_with fail
    go_big_quiet (fail)
    have z0 : ((w.alloc (.cells #[.int .i64 0, .int .i64 0, .int .i64 0, .slice none 0 0] 38)).drewN nq).cell? ⟨w.heap.size, 0, none⟩ = some (.int .i64 0) := by go_simp
    have z1 : ((w.alloc (.cells #[.int .i64 0, .int .i64 0, .int .i64 0, .slice none 0 0] 38)).drewN nq).cell? ⟨w.heap.size, 1, none⟩ = some (.int .i64 0) := by go_simp
    have z2 : ((w.alloc (.cells #[.int .i64 0, .int .i64 0, .int .i64 0, .slice none 0 0] 38)).drewN nq).cell? ⟨w.heap.size, 2, none⟩ = some (.int .i64 0) := by go_simp
    have z3 : ((w.alloc (.cells #[.int .i64 0, .int .i64 0, .int .i64 0, .slice none 0 0] 38)).drewN nq).cell? ⟨w.heap.size, 3, none⟩ = some (.slice none 0 0) := by go_simp
    have zf : ∀ o, ((w.alloc (.cells #[.int .i64 0, .int .i64 0, .int .i64 0, .slice none 0 0] 38)).drewN nq).frozen? ⟨w.heap.size, o, none⟩ = false := fun o => by go_simp
    have hB := bDrew ((Below.refl w.heap.size w).alloc (Nat.le_refl _) (.cells #[.int .i64 0, .int .i64 0, .int .i64 0, .slice none 0 0] 38)) nq
    generalize (w.alloc (.cells #[.int .i64 0, .int .i64 0, .int .i64 0, .slice none 0 0] 38)).drewN nq = U at z0 z1 z2 z3 zf hB ⊢
    clear hbA
    go_wp2_with fail
    obtain ⟨s0, s1, s2, s3⟩ := set4 (.int .i64 0) (.int .i64 0) (.int .i64 0) (.slice none 0 0) z0 z1 z2 z3
    refine bodyPost_ret (v := .tuple #[.agg #[.int .i64 0, .int .i64 0, .int .i64 0, .slice none 0 0], .int .i64 230]) (by simp [results, Try.results26, go_sem, s0, s1, s2, s3]) rfl ⟨rfl, below4 hB (Nat.le_refl _) _ _ _ _⟩

set_option maxRecDepth 100000 in
set_option maxHeartbeats 4000000 in
theorem parse_ok (b o n cap : Nat) (F : Nat → Nat) (w : World) (h8 : 8 ≤ n) (h15 : n ≤ 1500) (hcap : n ≤ cap) (hc2 : cap ≤ 9223372036854775807) (hb : BytesAt w b o n F) (hbl : b < w.heap.size) (e0 : F 0 = 105) (e1 : 1 ≤ F 1) (e2 : F 1 ≤ 16) (e3 : F 3 = 0) (e4 : F 4 * 256 + F 5 = n - 8) (hck : ckS (tot F n) = 65535) (e6 : ¬ (F 6 = 255 ∧ F 7 = 255)) :
    Calls Try.prog 26 #[.slice (some ⟨b, o, none⟩) n cap] w fun e w' => ∃ v, e = .returned (.tuple #[.agg #[.int .i64 0, .int .i64 (F 1 : Nat), .int .i64 (F 2 : Nat), v], .int .i64 0]) ∧ w'.ownsRow (w.heap.size + 1) 5 1 v (n - 8) (tailV F (n - 8)) ∧ (n - 8 = 0 → v = .slice none 0 0) ∧ Below w.heap.size w w' := by
  obtain ⟨i0, hi0, hz0, hz1, hz2⟩ := info_parts info_u8
  have k : ¬ (n : Int) < 8 := by omega
  have k' : ¬ (1500 : Int) < (n : Int) := by omega
  obtain ⟨c0, f0⟩ := hb 0 (by omega)
  obtain ⟨c1, f1⟩ := hb 1 (by omega)
  obtain ⟨c2, f2⟩ := hb 2 (by omega)
  obtain ⟨c3, f3⟩ := hb 3 (by omega)
  obtain ⟨c4, f4⟩ := hb 4 (by omega)
  obtain ⟨c5, f5⟩ := hb 5 (by omega)
  obtain ⟨c6, f6⟩ := hb 6 (by omega)
  obtain ⟨c7, f7⟩ := hb 7 (by omega)
  rw [Nat.add_zero, e0] at c0
  rw [e3] at c3
  have k0 : (0 : Int) < (n : Int) := by omega
  have k1 : (1 : Int) < (n : Int) := by omega
  have k2 : (2 : Int) < (n : Int) := by omega
  have k3 : (3 : Int) < (n : Int) := by omega
  have k4 : (4 : Int) < (n : Int) := by omega
  have k5 : (5 : Int) < (n : Int) := by omega
  have k6 : (6 : Int) < (n : Int) := by omega
  have k7 : (7 : Int) < (n : Int) := by omega
  have k8 : (8 : Int) ≤ (n : Int) := by omega
  have k9 : (8 : Int) ≤ (cap : Int) := by omega
  have h3' : ¬ ((F 1 : Nat) : Int) < 1 := by omega
  have h4' : ¬ 16 < ((F 1 : Nat) : Int) := by omega
  have ho := or_i64 (F 4) (F 5) f4 f5
  have h6' : (((F 4 : Nat) : Int) * 256 + ((F 5 : Nat) : Int) != (n : Int) - 8) = false := by simp; omega
  have ha := and_ne (F 6) (F 7) f6 f7 e6
  have cc := fun u (hu : BytesAt u b o n F) => check_c b o n cap F u hcap hc2 hu
  rw [hck] at cc
  have hbA := fun (m : Nat) (ob : Obj) => (show BytesAt ((w.alloc ob).drewN m) b o n F from fun i hi => ⟨((bDrew ((Below.refl w.heap.size w).alloc (Nat.le_refl _) ob) m).cell (p := ⟨b, o + i, none⟩) hbl).trans (hb i hi).1, (hb i hi).2⟩)
  replace hb := Lib.hid hb
  clear e0 e1 e2 e3 e4 hck e6
  go_enter Try.func26, Try.ntmps26
  go_wp2_with fail
  go_big_quiet (fail)
  have hcb := hbA nq (.cells #[.int .i64 0, .int .i64 0, .int .i64 0, .slice none 0 0] 38)
  have z0 : ((w.alloc (.cells #[.int .i64 0, .int .i64 0, .int .i64 0, .slice none 0 0] 38)).drewN nq).cell? ⟨w.heap.size, 0, none⟩ = some (.int .i64 0) := by go_simp
  have z1 : ((w.alloc (.cells #[.int .i64 0, .int .i64 0, .int .i64 0, .slice none 0 0] 38)).drewN nq).cell? ⟨w.heap.size, 1, none⟩ = some (.int .i64 0) := by go_simp
  have z2 : ((w.alloc (.cells #[.int .i64 0, .int .i64 0, .int .i64 0, .slice none 0 0] 38)).drewN nq).cell? ⟨w.heap.size, 2, none⟩ = some (.int .i64 0) := by go_simp
  have z3 : ((w.alloc (.cells #[.int .i64 0, .int .i64 0, .int .i64 0, .slice none 0 0] 38)).drewN nq).cell? ⟨w.heap.size, 3, none⟩ = some (.slice none 0 0) := by go_simp
  have zf : ∀ o, ((w.alloc (.cells #[.int .i64 0, .int .i64 0, .int .i64 0, .slice none 0 0] 38)).drewN nq).frozen? ⟨w.heap.size, o, none⟩ = false := fun o => by go_simp
  have hB := bDrew ((Below.refl w.heap.size w).alloc (Nat.le_refl _) (.cells #[.int .i64 0, .int .i64 0, .int .i64 0, .slice none 0 0] 38)) nq
  have hsz : ((w.alloc (.cells #[.int .i64 0, .int .i64 0, .int .i64 0, .slice none 0 0] 38)).drewN nq).heap.size = w.heap.size + 1 := by simp
  generalize (w.alloc (.cells #[.int .i64 0, .int .i64 0, .int .i64 0, .slice none 0 0] 38)).drewN nq = U at z0 z1 z2 z3 zf hB hcb hsz ⊢
  clear c0 c1 c2 c3 c4 c5 c6 c7
  go_wp2_with fail
  refine (cc _ hcb).mono ?_
  rintro e w4 ⟨rfl, m, rfl⟩
  have hcb2 : BytesAt (U.drewN m) b o n F := fun i hi => ⟨by simpa using (hcb i hi).1, (hcb i hi).2⟩
  replace z0 : (U.drewN m).cell? ⟨w.heap.size, 0, none⟩ = some (.int .i64 0) := by simpa using z0
  replace z1 : (U.drewN m).cell? ⟨w.heap.size, 1, none⟩ = some (.int .i64 0) := by simpa using z1
  replace z2 : (U.drewN m).cell? ⟨w.heap.size, 2, none⟩ = some (.int .i64 0) := by simpa using z2
  replace z3 : (U.drewN m).cell? ⟨w.heap.size, 3, none⟩ = some (.slice none 0 0) := by simpa using z3
  replace zf : ∀ o, (U.drewN m).frozen? ⟨w.heap.size, o, none⟩ = false := fun o => by simpa using zf o
  replace hB := bDrew hB m
  replace hsz : (U.drewN m).heap.size = w.heap.size + 1 := by simpa using hsz
  generalize U.drewN m = U2 at z0 z1 z2 z3 zf hB hcb2 hsz ⊢
  clear hcb hbA cc
  have c6 := (hcb2 6 (by omega)).1
  have c7 := (hcb2 7 (by omega)).1
  replace hcb2 := Lib.hid hcb2
  go_wp2_with fail
  go_big_quiet (fail)
  have hcb3 : BytesAt (U2.drewN nq) b o n F := fun i hi => ⟨by simpa using (hcb2.out i hi).1, (hcb2.out i hi).2⟩
  replace z0 : (U2.drewN nq).cell? ⟨w.heap.size, 0, none⟩ = some (.int .i64 0) := by simpa using z0
  replace z1 : (U2.drewN nq).cell? ⟨w.heap.size, 1, none⟩ = some (.int .i64 0) := by simpa using z1
  replace z2 : (U2.drewN nq).cell? ⟨w.heap.size, 2, none⟩ = some (.int .i64 0) := by simpa using z2
  replace z3 : (U2.drewN nq).cell? ⟨w.heap.size, 3, none⟩ = some (.slice none 0 0) := by simpa using z3
  replace zf : ∀ o, (U2.drewN nq).frozen? ⟨w.heap.size, o, none⟩ = false := fun o => by simpa using zf o
  replace hB := bDrew hB nq
  replace hsz : (U2.drewN nq).heap.size = w.heap.size + 1 := by simpa using hsz
  generalize U2.drewN nq = U3 at z0 z1 z2 z3 zf hB hcb3 hsz ⊢
  clear c6 c7 hcb2
  have c1 := (hcb3 1 (by omega)).1
  have c2 := (hcb3 2 (by omega)).1
  obtain ⟨X, hX⟩ : ∃ X, (if cap = 8 then some (⟨b, o, none⟩ : Addr) else some ⟨b, o + 8, none⟩) = X := ⟨_, rfl⟩
  have hcells : 0 < n - 8 → ∃ ad, (if cap = 8 then some (⟨b, o, none⟩ : Addr) else some ⟨b, o + 8, none⟩) = some ad ∧ ∀ j u, (tailV F (n - 8))[j]? = some u → U3.drew.cell? (ad.add j) = some u := fun hp => by
    refine ⟨⟨b, o + 8, none⟩, by rw [if_neg (by omega)], fun j u hu => ?_⟩
    have hj : j < n - 8 := by have := (List.getElem?_eq_some_iff.1 hu).1; rw [tailV_len] at this; omega
    have h2 := (hcb3 (8 + j) (by omega)).1
    rw [← Nat.add_assoc] at h2
    simp [tailV, bvals, hj] at hu
    subst hu
    rw [Addr.add_lit]
    simpa using h2
  replace hcb3 := Lib.hid hcb3
  rw [hX] at hcells
  go_wp2_with fail
  have w1 : IntKind.i64.wrap ((F 1 : Nat) : Int) = ((F 1 : Nat) : Int) := IntWalk.i64_in _ ⟨by omega, by omega⟩
  have w2 : IntKind.i64.wrap ((F 2 : Nat) : Int) = ((F 2 : Nat) : Int) := IntWalk.i64_in _ ⟨by omega, by omega⟩
  have hmm : n ≤ 1500 := h15
  clear ho ha h6' k0 k3 k4 k5 k6 k7 f0 f3 f4 f5 f6 f7 hcap hc2 h15
  have hmx : 0 + (n - 8) ≤ maxLen := by unfold maxLen; omega
  have hby : (0 + (n - 8)) * 1 ≤ 140737488355328 := by omega
  have hbase : w.heap.size + 1 ≤ U3.drew.heap.size := by show w.heap.size + 1 ≤ U3.heap.size; omega
  go_region_law (refine step_append_nil rfl _ _ 34 (by rfl) (w.heap.size + 1) 5 i0 _ 1 1 Try.underlying34 hi0 hz0 hz1 hz2 (by rfl) (by omega) (by rfl) _ (n - 8) _ _ (by rfl) (tailV_len F _) hcells (bvals_one _) hmx hby hbase ?_; intro a1 p1 w3 hown1 hnil1 hb1; have y0 := (hb1.cell (p := ⟨w.heap.size, 0, none⟩) (by simp only; omega)).trans (show U3.drew.cell? _ = _ by simpa using z0); have y1 := (hb1.cell (p := ⟨w.heap.size, 1, none⟩) (by simp only; omega)).trans (show U3.drew.cell? _ = _ by simpa using z1); have y2 := (hb1.cell (p := ⟨w.heap.size, 2, none⟩) (by simp only; omega)).trans (show U3.drew.cell? _ = _ by simpa using z2); have y3 := (hb1.cell (p := ⟨w.heap.size, 3, none⟩) (by simp only; omega)).trans (show U3.drew.cell? _ = _ by simpa using z3); have yf := fun o => (hb1.frozen (p := ⟨w.heap.size, o, none⟩) (by simp only; omega)).trans (show U3.drew.frozen? _ = _ by simpa using zf o); have d1 := (hb1.cell (p := ⟨b, o + 1, none⟩) (by simp only; omega)).trans (show U3.drew.cell? _ = _ by simpa using c1); have d2 := (hb1.cell (p := ⟨b, o + 2, none⟩) (by simp only; omega)).trans (show U3.drew.cell? _ = _ by simpa using c2); replace hb1 := Lib.hid hb1; replace hnil1 := Lib.hid hnil1)
  all_goals
    go_wp2_with fail
    all_goals
      obtain ⟨s0, s1, s2, s3⟩ := set4 (.int .i64 0) (.int .i64 (F 1 : Nat)) (.int .i64 (F 2 : Nat)) (.slice a1 (n - 8) p1) y0 y1 y2 y3
      have hB5 := below4 (hB.drew.trans (hb1.out.mono (by omega))) (Nat.le_refl _) (.int .i64 0) (.int .i64 (F 1 : Nat)) (.int .i64 (F 2 : Nat)) (.slice a1 (n - 8) p1)
      have hO := ownsRow_setCell_below (ownsRow_setCell_below (ownsRow_setCell_below (ownsRow_setCell_below hown1 (a := ⟨w.heap.size, 0, none⟩) (by simp only; omega) (.int .i64 0)) (a := ⟨w.heap.size, 1, none⟩) (by simp only; omega) (.int .i64 (F 1 : Nat))) (a := ⟨w.heap.size, 2, none⟩) (by simp only; omega) (.int .i64 (F 2 : Nat))) (a := ⟨w.heap.size, 3, none⟩) (by simp only; omega) (.slice a1 (n - 8) p1)
      refine bodyPost_ret (v := .tuple #[.agg #[.int .i64 0, .int .i64 (F 1 : Nat), .int .i64 (F 2 : Nat), .slice a1 (n - 8) p1], .int .i64 0]) (by simp [results, Try.results26, go_sem, s0, s1, s2, s3]) rfl ⟨.slice a1 (n - 8) p1, rfl, hO, fun hh => by obtain ⟨q1, q2⟩ := hnil1.out hh; rw [q1, q2, hh], hB5⟩
end Go.Proofs.Ytkefkophlhcbiaa
