/- The scheduler's bound: what ends soon, and the law's walk. -/
import Derived.Test.YtbbcongfaoopcaaF47
namespace Go.Proofs.Ytbbcongfaoopcaa
open Go.ChangeShapes Go.WideShapes Go.ChangeAt Go.RowKit Go.Maps
set_option linter.unusedVariables false
set_option linter.unusedSimpArgs false
open BigFrame Pk Fq Vr Fa Fb

set_option maxRecDepth 100000 in
set_option maxHeartbeats 8000000 in
theorem fbound_none (w : World) (aw aq am : Option Addr) (nw cw nq cq nm cm : Nat) (flow : Int) (hc : Calls Try.prog 11 #[.slice aw nw cw] w (NoNew w)) :
    Calls Try.prog 5 #[.slice aw nw cw, .slice aq nq cq, .slice am nm cm, .int .i64 flow] w fun e w' => e = .returned (.bool true) ∧ Below w.heap.size w w' := by
  replace hc := Lib.hid hc
  go_enter Try.func5, Try.ntmps5
  go_wp2_with fail
  refine hc.out.mono ?_
  rintro e w1 ⟨rfl, hB1⟩
  replace hB1 := Lib.hid hB1
  clear hc
  go_wp2_with fail
  refine (wakes26_c _).mono ?_
  rintro e w3 ⟨rfl, hb⟩
  have hF := Lib.hid (hB1.out.trans (hb.mono hB1.out.size))
  clear hb
  go_wp2_with fail
  exact bodyPost_ret (v := .bool true) (by simp [results, Try.results5, go_sem]) rfl ⟨rfl, hF.out⟩

set_option maxRecDepth 100000 in
set_option maxHeartbeats 8000000 in
theorem fbound_lens (w : World) (aw aq am : Option Addr) (nw cw nq cq nm cm : Nat) (flow : Int) (g : Nat → Int) (hc : Calls Try.prog 11 #[.slice aw nw cw] w (NewF nw g w)) (h : nq ≠ nw) :
    Calls Try.prog 5 #[.slice aw nw cw, .slice aq nq cq, .slice am nm cm, .int .i64 flow] w fun e w' => e = .returned (.bool true) ∧ Below w.heap.size w w' := by
  replace hc := Lib.hid hc
  have hz : ¬ (nq : Int) = (nw : Int) := by omega
  clear h
  go_enter Try.func5, Try.ntmps5
  go_wp2_with fail
  refine hc.out.mono ?_
  rintro e w1 ⟨f, lb, cl, tb, ct, rfl, hFD, hf1, hf2, hf3, hB1⟩
  replace hB1 := Lib.hid hB1
  clear hc hFD
  go_wp2_with fail
  refine (wakes26_c _).mono ?_
  rintro e w3 ⟨rfl, hb⟩
  have hF := Lib.hid (hB1.out.trans (hb.mono hB1.out.size))
  clear hb
  go_wp2_with fail
  exact bodyPost_ret (v := .bool true) (by simp [results, Try.results5, go_sem]) rfl ⟨rfl, hF.out⟩

set_option maxRecDepth 100000 in
set_option maxHeartbeats 8000000 in
theorem fbound_many (w : World) (aw aq am : Option Addr) (nw cw cq nm cm : Nat) (flow : Int) (g : Nat → Int) (hc : Calls Try.prog 11 #[.slice aw nw cw] w (NewF nw g w)) (h : 150 < nm) :
    Calls Try.prog 5 #[.slice aw nw cw, .slice aq nw cq, .slice am nm cm, .int .i64 flow] w fun e w' => e = .returned (.bool true) ∧ Below w.heap.size w w' := by
  replace hc := Lib.hid hc
  have hz : (150 : Int) < (nm : Int) := by omega
  clear h
  go_enter Try.func5, Try.ntmps5
  go_wp2_with fail
  refine hc.out.mono ?_
  rintro e w1 ⟨f, lb, cl, tb, ct, rfl, hFD, hf1, hf2, hf3, hB1⟩
  replace hB1 := Lib.hid hB1
  clear hc hFD
  go_wp2_with fail
  refine (wakes26_c _).mono ?_
  rintro e w3 ⟨rfl, hb⟩
  have hF := Lib.hid (hB1.out.trans (hb.mono hB1.out.size))
  clear hb
  go_wp2_with fail
  exact bodyPost_ret (v := .bool true) (by simp [results, Try.results5, go_sem]) rfl ⟨rfl, hF.out⟩

theorem fairBound_walk (w : World) (v0 : Value) (a0 : XT_Lint) (v1 : Value) (a1 : XT_LLint) (v2 : Value) (a2 : XT_Lint) (a3 : Int) (w0 : Is_Lint w v0 a0) (w1 : Is_LLint w v1 a1) (w2 : Is_Lint w v2 a2) (w3 : (Lit.int .i64 a3).wf = true) :
    Calls Try.prog 5 #[v0, v1, v2, .int .i64 a3] w fun e w' => e = .returned (.bool true) ∧ Below w.heap.size w w' := by
  obtain ⟨rfl, W0⟩ := w0
  obtain ⟨rfl, _, _, T0⟩ := w1
  obtain ⟨rfl, M0⟩ := w2
  have hf : -9223372036854775808 ≤ a3 ∧ a3 ≤ 9223372036854775807 := by
    simp [Lit.wf, IntKind.min, IntKind.max, IntKind.bits, IntKind.signed] at w3
    omega
  rcases fnew_c w a0.a a0.n a0.c a0.d W0 with ⟨hok, hc⟩ | ⟨hok, hc⟩
  · by_cases h1 : a1.n = a0.n
    · by_cases h2 : 150 < a2.n
      · rw [h1]
        exact fbound_many w a0.a a1.a a2.a a0.n a0.c a1.c a2.n a2.c a3 _ hc h2
      · rw [h1] at T0 ⊢
        exact fbound_c w a0.a a1.a a2.a a0.n a0.c a2.n a2.c a1.c a1.b a1.off a0.d a2.d a1.A a1.L a1.C a1.Q a3 W0 T0 M0 hok (by omega) hf.1 hf.2
    · exact fbound_lens w a0.a a1.a a2.a a0.n a0.c a1.n a1.c a2.n a2.c a3 _ hc h1
  · exact fbound_none w a0.a a1.a a2.a a0.n a0.c a1.n a1.c a2.n a2.c a3 hc
end Go.Proofs.Ytbbcongfaoopcaa
