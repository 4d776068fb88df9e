/- What GrantSurely says, at every input. -/
import Derived.Test.YtifohibpcngakaaD9
namespace Go.Proofs.Ytifohibpcngakaa
open Go.ChangeShapes Go.WideShapes Go.ChangeAt Go.RowKit Go.Maps
set_option linter.unusedVariables false
set_option linter.unusedSimpArgs false
open BigFrame Bs Gr

abbrev XT_LStep := Nat → Nat → Int
def Is_LStep (w : World) (v : Value) (f : XT_LStep) : Prop :=
  ∃ a len cap, v = .slice a len cap ∧ len ≤ cap ∧ cap ≤ 9223372036854775807 ∧ (0 < len → ∃ b off, a = some ⟨b, off, none⟩ ∧ b < w.heap.size ∧ ∀ i, i < len → Sta w b off f i)
set_option maxRecDepth 100000 in
theorem open_LStep {H : Type} {enc : TypeId × Value → H} {w : World} {r : Reach} {b0 : Nat} {v : Value} {d : DataW H} {p : List MemPlace} (hv : Value.okWide Try.prog w r b0 50 v) (h : DataW.Trod enc Try.prog w 0 (fun _ => true) true 50 v d p) :
    ∃ f, Is_LStep w v f := by
  obtain ⟨a, len, cap, rfl, hl, hm, hrow⟩ := open_rows Try.underlying50 Try.underlying55 (by kernel_rfl) (by kernel_rfl) hv h
  by_cases hp : 0 < len
  · obtain ⟨b, off, V, rfl, hb, hc⟩ := hrow hp (by simp)
    refine ⟨fun i j => intOf (V i j), _, len, cap, rfl, hl, by unfold maxLen at hm; exact hm, fun _ => ⟨b, off, rfl, hb, fun i hi => ?_⟩⟩
    obtain ⟨c0, n0, y0, t0⟩ := hc i (by omega) 0 _ rfl
    obtain ⟨c1, n1, y1, t1⟩ := hc i (by omega) 1 _ rfl
    obtain ⟨c2, n2, y2, t2⟩ := hc i (by omega) 2 _ rfl
    obtain ⟨e0, f0⟩ := trod_int' Try.underlying3 t0
    obtain ⟨e1, f1⟩ := trod_int' Try.underlying3 t1
    obtain ⟨e2, f2⟩ := trod_int' Try.underlying3 t2
    rw [e0] at c0
    rw [e1] at c1
    rw [e2] at c2
    exact ⟨c0, c1, c2⟩
  · exact ⟨fun _ _ => 0, a, len, cap, rfl, hl, by unfold maxLen at hm; exact hm, fun h => absurd h hp⟩

set_option maxRecDepth 100000 in
set_option maxHeartbeats 4000000 in
theorem grantSurely_rho (w : World) (ti r : Int) (p1 : Option Addr) (N c1 : Nat) (ask made : Int) (own : Bool) (h : r < 0 ∨ 200 < r) :
    Calls Try.prog 5 #[.int .i64 ti, .int .i64 r, .slice p1 N c1, .int .i64 ask, .int .i64 made, .bool own] w fun e w' => e = .returned (.bool true) ∧ Below w.heap.size w w' := by
  have hn := Lib.hid (new_no r w h)
  clear h
  go_enter Try.func5, Try.ntmps5
  go_wp2_with fail
  refine hn.out.mono ?_
  rintro e w1 ⟨rfl, rfl⟩
  go_wp2_with fail
  refine hn.out.mono ?_
  rintro e w1 ⟨rfl, rfl⟩
  clear hn
  go_wp2_with fail
  refine (wakes21_c _).mono ?_
  rintro e w2 ⟨rfl, hb⟩
  go_wp2_with fail
  go_ret
  exact ⟨rfl, hb⟩

set_option maxRecDepth 100000 in
set_option maxHeartbeats 4000000 in
theorem grantSurely_bad (w : World) (ti r : Int) (p1 : Option Addr) (N c1 : Nat) (ask made : Int) (own : Bool) (r0 : 0 ≤ r) (r1 : r ≤ 200) (h : 100 < N ∨ ti < 1 ∨ 1099511627776 < ti ∨ made < ask) :
    Calls Try.prog 5 #[.int .i64 ti, .int .i64 r, .slice p1 N c1, .int .i64 ask, .int .i64 made, .bool own] w fun e w' => e = .returned (.bool true) ∧ Below w.heap.size w w' := by
  go_enter Try.func5, Try.ntmps5
  go_wp2_with fail
  refine (new_ok r _ r0 r1).mono ?_
  rintro e w1 ⟨rfl, _, hBa⟩
  go_wp2_with fail
  refine (new_ok r _ r0 r1).mono ?_
  rintro e w2 ⟨rfl, _, hBb⟩
  have hB := Lib.hid (bNext hBa hBb (Nat.le_refl _))
  clear hBa hBb
  by_cases a1 : 100 < N
  · have b1 : (100 : Int) < (N : Int) := by omega
    clear h
    go_wp2_with fail
    refine (wakes21_c _).mono ?_
    rintro e w3 ⟨rfl, hb⟩
    have hF := Lib.hid (bNext hB.out hb (Nat.le_refl _))
    clear hB hb
    go_wp2_with fail
    go_ret
    exact ⟨rfl, hF.out⟩
  have b1 : (N : Int) ≤ 100 := by omega
  by_cases a2 : ti < 1
  · clear h
    go_wp2_with fail
    refine (wakes21_c _).mono ?_
    rintro e w3 ⟨rfl, hb⟩
    have hF := Lib.hid (bNext hB.out hb (Nat.le_refl _))
    clear hB hb
    go_wp2_with fail
    go_ret
    exact ⟨rfl, hF.out⟩
  by_cases a3 : 1099511627776 < ti
  · clear h
    go_wp2_with fail
    refine (wakes21_c _).mono ?_
    rintro e w3 ⟨rfl, hb⟩
    have hF := Lib.hid (bNext hB.out hb (Nat.le_refl _))
    clear hB hb
    go_wp2_with fail
    go_ret
    exact ⟨rfl, hF.out⟩
  · have a4 : made < ask := by omega
    clear h
    go_wp2_with fail
    refine (wakes21_c _).mono ?_
    rintro e w3 ⟨rfl, hb⟩
    have hF := Lib.hid (bNext hB.out hb (Nat.le_refl _))
    clear hB hb
    go_wp2_with fail
    go_ret
    exact ⟨rfl, hF.out⟩

set_option maxRecDepth 100000 in
theorem grantSurely_walk (w : World) (a0 a1 : Int) (v2 : Value) (a2 : XT_LStep) (a3 a4 : Int) (a5 : Bool) (w0 : (Lit.int .i64 a0).wf = true) (w1 : (Lit.int .i64 a1).wf = true) (w2 : Is_LStep w v2 a2) (w3 : (Lit.int .i64 a3).wf = true) (w4 : (Lit.int .i64 a4).wf = true) :
    Calls Try.prog 5 #[.int .i64 a0, .int .i64 a1, v2, .int .i64 a3, .int .i64 a4, .bool a5] w fun e w' => e = .returned (.bool true) ∧ Below w.heap.size w w' := by
  obtain ⟨a, len, cap, rfl, _, _, hf⟩ := w2
  by_cases hr : 0 ≤ a1 ∧ a1 ≤ 200
  · by_cases hb : 100 < len ∨ a0 < 1 ∨ 1099511627776 < a0 ∨ a4 < a3
    · exact grantSurely_bad w a0 a1 a len cap a3 a4 a5 hr.1 hr.2 hb
    · exact grantSurely_some w a0 a1 a2 a len cap a3 a4 a5 (by omega) hr (by omega) (by omega) (bounds_i64 w4).1 hf
  · exact grantSurely_rho w a0 a1 a len cap a3 a4 a5 (by omega)
end Go.Proofs.Ytifohibpcngakaa
