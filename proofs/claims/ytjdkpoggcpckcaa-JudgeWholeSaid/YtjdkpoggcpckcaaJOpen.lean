/- How rows of structs of integers are opened: []api.Sent, []api.Force. -/
import Derived.Test.YtjdkpoggcpckcaaOpen3
import Derived.Test.YtjdkpoggcpckcaaBase
namespace Go.Proofs.Ytjdkpoggcpckcaa
open Go.ChangeShapes Go.WideShapes Go.ChangeAt Go.RowKit
set_option linter.unusedVariables false
set_option linter.unusedSimpArgs false
open Bs

section
open Go.Deep
variable {H : Type} {enc : TypeId × Value → H} {P : Program} {w : World}
theorem open_intRows {r : Reach} {b0 k : Nat} {t e T : TypeId} {fs : Array Field} {v : Value} {d : DataW H} {p : List MemPlace} (ht : P.underlying t = some (.slice e)) (he : P.underlying e = some (.struct fs))
    (hone : oneCellFields P fs = true) (hC : P.cellsOf e = fs.size) (hk : fs.size = k) (hk0 : 0 < k) (hall : fs.toList.all (fun f => f.type == T) = true) (hT : P.underlying T = some (.int .i64))
    (hv : Value.okWide P w r b0 t v) (h : DataW.Trod enc P w 0 (fun _ => true) true t v d p) :
    ∃ (a : Option Addr) (b off len cap : Nat) (X : Nat → Nat → Int), v = .slice a len cap ∧ len ≤ cap ∧ cap ≤ 9223372036854775807 ∧ IntRows w a b off len k X ∧ ∀ i j, i < len → j < k → (Lit.int .i64 (X i j)).wf = true := by
  obtain ⟨a, len, cap, rfl, hl, hm, hrow⟩ := open_rows ht he hone hC hv h
  unfold maxLen at hm
  by_cases hp : 0 < len
  · obtain ⟨b, off, V, rfl, hb, hV⟩ := hrow hp (by omega)
    have hc : ∀ i j, i < len → j < k → w.cell? ⟨b, off + i * k + j, none⟩ = some (.int .i64 (RowKit.intOf (V i j))) ∧ (Lit.int .i64 (RowKit.intOf (V i j))).wf = true := fun i j hi hj => by
      have hjf : j < fs.size := by omega
      obtain ⟨h1, n, y, h2⟩ := hV i (by omega) j (fs[j]'hjf) (by simp [hjf])
      have hT2 : (fs[j]'hjf).type = T := by
        have := List.all_eq_true.1 hall (fs[j]'hjf) (by simp)
        simpa using this
      rw [hT2] at h2
      obtain ⟨e2, f2⟩ := trod_int' hT h2
      rw [e2, hk] at h1
      exact ⟨by simpa [Nat.add_assoc] using h1, f2⟩
    exact ⟨_, b, off, len, cap, fun i j => RowKit.intOf (V i j), rfl, hl, hm, ⟨fun _ => rfl, fun _ => hb, fun i j hi hj => (hc i j hi hj).1⟩, fun i j hi hj => (hc i j hi hj).2⟩
  · exact ⟨a, 0, 0, len, cap, fun _ _ => 0, rfl, hl, hm, ⟨fun h => absurd h hp, fun h => absurd h hp, fun i j hi hj => absurd hi (by omega)⟩, fun i j hi hj => absurd hi (by omega)⟩
end

structure XT_Rows where
  a : Option Addr
  b : Nat
  off : Nat
  n : Nat
  cap : Nat
  X : Nat → Nat → Int
abbrev XT_LSent := XT_Rows
abbrev XT_LForce := XT_Rows
def Is_RowsK (k : Nat) (w : World) (v : Value) (x : XT_Rows) : Prop :=
  v = .slice x.a x.n x.cap ∧ x.n ≤ x.cap ∧ x.cap ≤ 9223372036854775807 ∧ IntRows w x.a x.b x.off x.n k x.X ∧ ∀ i j, i < x.n → j < k → (Lit.int .i64 (x.X i j)).wf = true
def Is_LSent (w : World) (v : Value) (x : XT_LSent) : Prop := Is_RowsK 6 w v x
def Is_LForce (w : World) (v : Value) (x : XT_LForce) : Prop := Is_RowsK 4 w v x
theorem i64_b {n : Int} (h : (Lit.int .i64 n).wf = true) : -9223372036854775808 ≤ n ∧ n ≤ 9223372036854775807 := by
  simp [Lit.wf, IntKind.min, IntKind.max, IntKind.signed, IntKind.bits] at h
  omega

section
variable {H : Type} {enc : TypeId × Value → H} {w : World}
set_option maxRecDepth 100000 in
theorem open_LSent {r : Reach} {b0 : Nat} {v : Value} {d : DataW H} {p : List MemPlace} (hv : Value.okWide Try.prog w r b0 24 v) (h : DataW.Trod enc Try.prog w 0 (fun _ => true) true 24 v d p) : ∃ x, Is_LSent w v x := by
  obtain ⟨a, b, off, len, cap, X, h1, h2, h3, h4, h5⟩ := open_intRows (T := 3) (k := 6) Try.underlying24 Try.underlying34 (by kernel_rfl) (by kernel_rfl) (by rfl) (by omega) (by kernel_rfl) Try.underlying3 hv h
  exact ⟨⟨a, b, off, len, cap, X⟩, h1, h2, h3, h4, h5⟩
set_option maxRecDepth 100000 in
theorem open_LForce {r : Reach} {b0 : Nat} {v : Value} {d : DataW H} {p : List MemPlace} (hv : Value.okWide Try.prog w r b0 37 v) (h : DataW.Trod enc Try.prog w 0 (fun _ => true) true 37 v d p) : ∃ x, Is_LForce w v x := by
  obtain ⟨a, b, off, len, cap, X, h1, h2, h3, h4, h5⟩ := open_intRows (T := 3) (k := 4) Try.underlying37 Try.underlying36 (by kernel_rfl) (by kernel_rfl) (by rfl) (by omega) (by kernel_rfl) Try.underlying3 hv h
  exact ⟨⟨a, b, off, len, cap, X⟩, h1, h2, h3, h4, h5⟩
end
end Go.Proofs.Ytjdkpoggcpckcaa
