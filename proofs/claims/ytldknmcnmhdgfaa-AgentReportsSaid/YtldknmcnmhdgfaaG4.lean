/- Leases: a tenant's leases, their tokens. -/
import Derived.Test.YtldknmcnmhdgfaaG3
namespace Go.Proofs.Ytldknmcnmhdgfaa
open Go.ChangeShapes Go.WideShapes Go.ChangeAt Go.RowKit
set_option linter.unusedVariables false
set_option linter.unusedSimpArgs false
open BigFrame Bs Ag

namespace Ag
section
variable {P : Program}
theorem run_append_zero (w : World) (base : Nat) (t ty e : TypeId) (i : TypeInfo) (size : Nat) (ht : P.underlying t = some (.slice e)) (hi : P.info? e = some i)
    (v : Value) (n : Nat) (xs : List Value) (hown : w.ownsRow base e size v n xs) (b : Option Addr) (d : Nat) :
    (Builtin.append_ #[t, t] ty #[v, .slice b 0 d]).run P w = .ok v w := by
  have hf := run_firstCells_some (P := P) w i.size 0
  cases b with
  | none =>
    rcases hown.2 with ⟨rfl, rfl⟩ | ⟨g, cap, cur, rfl, _, _, hnc, _⟩
    · simp [Builtin.append_, run_underlying ht, sizeOf, typeInfo, hi, Builtin.lenOf, Builtin.firstCells]
    · simp [Builtin.append_, run_underlying ht, sizeOf, typeInfo, hi, Builtin.lenOf, Builtin.firstCells, hnc, storeCells]
  | some ad =>
    have hc := hf ad 0 d [] (by simp) (by intro j u h; simp at h)
    rcases hown.2 with ⟨rfl, rfl⟩ | ⟨g, cap, cur, rfl, _, _, hnc, _⟩
    · simp [Builtin.append_, run_underlying ht, sizeOf, typeInfo, hi, Builtin.lenOf, hc]
    · simp [Builtin.append_, run_underlying ht, sizeOf, typeInfo, hi, Builtin.lenOf, hnc, storeCells, hc]
theorem wpList_append_zero {w : World} {ops : Array Oper} {rest : List Oper} {o : Oper} {a : Act} {Q : Exit → Act → World → Prop} (hgd : o.guard = none) (s x : Operand) (t : TypeId)
    (ho : o.op = .call { callee := .builtin .append, args := #[s, x], argTypes := #[t, t] })
    (base : Nat) (e : TypeId) (i : TypeInfo) (size : Nat) (ht : P.underlying t = some (.slice e)) (hi : P.info? e = some i)
    (v : Value) (n : Nat) (xs : List Value) (hs : a.eval s = v) (hown : w.ownsRow base e size v n xs)
    (b : Option Addr) (c : Nat) (hx : a.eval x = .slice b 0 c) (h : wpList P ops Q rest (a.put o.dst v) w) : wpList P ops Q (o :: rest) a w := by
  have hrun := run_append_zero (P := P) w base t o.type e i size ht hi _ n xs hown b c
  refine wpList_plain hgd fun K hK => ?_
  unfold Oper.wp
  simp [execOp, ho, resolve, invoke, builtin, hs, hx, hrun, Result.andThen]
  exact hK _ _ h
end
theorem own_blk {w : World} {base size n g cap : Nat} {e : TypeId} {xs : List Value} (h : w.ownsRow base e size (.slice (some ⟨g, 0, none⟩) n cap) n xs) (hl : g < w.heap.size) : Blk w g xs :=
  ⟨fun i x hx => by
    have hi : i < xs.length := (List.getElem?_eq_some_iff.1 hx).1
    rw [h.cellAt i (by rw [← h.1]; exact hi)]; exact hx, fun o => h.frozenAt o, hl⟩
theorem own_cap {w : World} {base size n g cap : Nat} {e : TypeId} {xs : List Value} (h : w.ownsRow base e size (.slice (some ⟨g, 0, none⟩) n cap) n xs) : n ≤ cap ∧ (cap : Int) ≤ 9223372036854775807 := by
  rcases h.2 with ⟨e, _⟩ | ⟨q', cap', cur, e, h1, h2, h3, h4, h5, h6⟩
  · cases e
  · cases e
    unfold maxLen at h4
    exact ⟨h3, by omega⟩
theorem info_lease : (Try.prog.info? 60).map (fun i => (i.zero, i.size, i.bytes)) = some (some (.pointer none), 1, 8) := by kernel_rfl
theorem eql_nil (u : World) : Sem.run Try.prog (binOp .eql 55 (.slice none 0 0) (.slice none 0 0)) u = .ok (.bool true) u := by rfl
theorem eql_some (u : World) (x : Addr) (n c : Nat) : Sem.run Try.prog (binOp .eql 55 (.slice (some x) n c) (.slice none 0 0)) u = .ok (.bool false) u := by rfl
/-- A row of one, new. -/
def NewRow (w : World) (g : Nat) (e : Ending) (w' : World) : Prop := ∃ q c : Nat, e = .returned (.slice (some ⟨q, 0, none⟩) 1 c) ∧ Blk w' q [.pointer (some ⟨g, 0, none⟩)] ∧ w.heap.size ≤ q ∧ 1 ≤ c ∧ (c : Int) ≤ 9223372036854775807 ∧ Below w.heap.size w w'
def NoRow (w : World) (e : Ending) (w' : World) : Prop := ∃ (p : Option Addr) (c : Nat), e = .returned (.slice p 0 c) ∧ Below w.heap.size w w'
end Ag
attribute [local go_sem] eql_nil eql_some

set_option maxRecDepth 100000 in
set_option maxHeartbeats 4000000 in
theorem clone_no (w : World) (p : Option Addr) (c : Nat) (hp : p = none → c = 0) : Calls Try.prog 29 #[.slice p 0 c] w (NoRow w) := by
  obtain ⟨i0, hi0, hz0, hz1, hz2⟩ := info_parts info_lease
  have hown0 : (w.alloc (.cells #[] 60)).ownsRow w.heap.size 60 1 (.slice (some ⟨w.heap.size, 0, none⟩) 0 0) 0 [] := World.ownsRow_lit (base := w.heap.size) (e := 60) (size := 1) w #[] 0 (Nat.le_refl _) (by unfold maxLen; omega) (by rfl)
  have hB0 : Below w.heap.size w (w.alloc (.cells #[] 60)) := (Below.refl _ _).alloc (Nat.le_refl _) _
  cases p with
  | none =>
    obtain rfl := hp rfl
    go_enter Try.func29, Try.ntmps29
    go_wp2_with fail
    go_ret
    exact ⟨_, _, rfl, Below.refl _ _⟩
  | some x =>
    clear hp
    go_enter Try.func29, Try.ntmps29
    go_wp2_with (at_builtin; refine wpList_append_zero rfl _ _ 55 (by rfl) w.heap.size 60 i0 1 Try.underlying55 hi0 _ _ _ (by rfl) hown0 (some x) c (by rfl) ?_)
    go_ret
    exact ⟨_, _, rfl, hB0⟩

set_option maxRecDepth 100000 in
set_option maxHeartbeats 4000000 in
theorem clone_one (w : World) (q g c : Nat) (h : Blk w q [.pointer (some ⟨g, 0, none⟩)]) : Calls Try.prog 29 #[.slice (some ⟨q, 0, none⟩) 1 c] w (NewRow w g) := by
  obtain ⟨i0, hi0, hz0, hz1, hz2⟩ := info_parts info_lease
  have hown0 : (w.alloc (.cells #[] 60)).ownsRow w.heap.size 60 1 (.slice (some ⟨w.heap.size, 0, none⟩) 0 0) 0 [] := World.ownsRow_lit (base := w.heap.size) (e := 60) (size := 1) w #[] 0 (Nat.le_refl _) (by unfold maxLen; omega) (by rfl)
  have hB0 : Below w.heap.size w (w.alloc (.cells #[] 60)) := (Below.refl _ _).alloc (Nat.le_refl _) _
  have hc := (h.bel hB0).c 0 _ rfl
  have hcells : ∀ j u, [Value.pointer (some ⟨g, 0, none⟩)][j]? = some u → (w.alloc (.cells #[] 60)).cell? ((⟨q, 0, none⟩ : Addr).add j) = some u := fun j u hu => by
    have hj : j < 1 := (List.getElem?_eq_some_iff.1 hu).1
    obtain rfl : j = 0 := by omega
    cases hu
    exact hc
  have h1c : ∀ u ∈ [Value.pointer (some ⟨g, 0, none⟩)], u.oneCell' = true := by intro u hu; simp at hu; subst hu; rfl
  clear h hc
  go_enter Try.func29, Try.ntmps29
  go_wp2_with (at_builtin; refine wpList_append_lies _ rfl _ _ 55 (by rfl) w.heap.size 60 i0 _ 1 8 Try.underlying55 hi0 hz0 hz1 hz2 (by rfl) (by omega) _ _ _ (by rfl) hown0 ⟨q, 0, none⟩ 1 c [.pointer (some ⟨g, 0, none⟩)] (by rfl) rfl hcells h1c (by omega) (by unfold maxLen; omega) (by omega) hB0.size (w.heap.size + 1) (by simp) ?_; intro g1 cap1 w3 hown1 hgrow1 hat1 hlt1)
  rw [Nat.zero_add] at hown1
  have hg : w.heap.size ≤ g1 := (hown1.lt g1 rfl).1
  have hB3 : Below w.heap.size w w3 := hB0.grown hgrow1 hB0.size (fun q hq => by have := (hown0.lt q hq).1; omega)
  have hb := own_blk hown1 hlt1
  obtain ⟨k1, k2⟩ := own_cap hown1
  go_ret
  exact ⟨g1, cap1, rfl, hb, hg, k1, k2, hB3⟩
end Go.Proofs.Ytldknmcnmhdgfaa
