/- Leases: New, Told. -/
import Derived.Test.YtldknmcnmhdgfaaG6
namespace Go.Proofs.Ytldknmcnmhdgfaa
open Go.ChangeShapes Go.WideShapes Go.ChangeAt Go.RowKit
set_option linter.unusedVariables false
set_option linter.unusedSimpArgs false
open BigFrame Bs Ag

namespace Ag
section
variable {P : Program}
/-- The first element of a row. -/
theorem wp_append_first {o : Oper} {a : Act} {w : World} {K : Act → World → Prop} {Q : Exit → Act → World → Prop} (s x : Operand) (t e : TypeId) (z : Value) (size bytes : Nat)
    (ho : o.op = .call { callee := .builtin .append, args := #[s, x], argTypes := #[t, t] }) (ht : P.underlying t = some (.slice e))
    (hi : (P.info? e).map (fun i => (i.zero, i.size, i.bytes)) = some (some z, size, bytes)) (hzs : z.cells.size = size) (hsz : 0 < size) (hby : bytes ≤ 1000000)
    (hs : a.eval s = .slice none 0 0) {b c : Nat} (hx : a.eval x = .slice (some ⟨b, 0, none⟩) 1 c) {vs : List Value} (hb : Blk w b vs) (hl : vs.length = size) (h1 : ∀ u ∈ vs, u.oneCell' = true)
    (hK : ∀ (g cap : Nat) w', Blk w' g vs → w.heap.size ≤ g → 1 ≤ cap → (cap : Int) ≤ 9223372036854775807 → Below w.heap.size w w' → K (a.put o.dst (.slice (some ⟨g, 0, none⟩) 1 cap)) w') : Oper.wp P o a w K Q := by
  obtain ⟨i0, hi0, hz0, hz1, hz2⟩ := info_parts hi
  refine wp_append_lies w s x t ho w.heap.size e i0 z size bytes ht hi0 hz0 hz1 hz2 hzs hsz (.slice none 0 0) 0 [] hs ⟨by simp, .inl ⟨rfl, rfl⟩⟩ ⟨b, 0, none⟩ 1 c vs hx (by omega) (fun j u hu => ?_) h1 (by omega) (by unfold maxLen; omega) (by omega) (Nat.le_refl _) w.heap.size rfl ?_
  · have := hb.c j u hu
    rw [Addr.add_lit, Nat.zero_add]
    exact this
  · intro g cap w' hown hgr hat hlt
    rw [Nat.zero_add] at hown ⊢
    obtain ⟨k1, k2⟩ := own_cap hown
    exact hK g cap w' (own_blk hown hlt) (hown.lt g rfl).1 k1 k2 ((Below.refl _ _).grown hgr (Nat.le_refl _) (fun q hq => by cases hq))
theorem wpList_append_first {o : Oper} {ops : Array Oper} {rest : List Oper} {a : Act} {w : World} {Q : Exit → Act → World → Prop} (hgd : o.guard = none) (s x : Operand) (t e : TypeId) (z : Value) (size bytes : Nat)
    (ho : o.op = .call { callee := .builtin .append, args := #[s, x], argTypes := #[t, t] }) (ht : P.underlying t = some (.slice e))
    (hi : (P.info? e).map (fun i => (i.zero, i.size, i.bytes)) = some (some z, size, bytes)) (hzs : z.cells.size = size) (hsz : 0 < size) (hby : bytes ≤ 1000000)
    (hs : a.eval s = .slice none 0 0) {b c : Nat} (hx : a.eval x = .slice (some ⟨b, 0, none⟩) 1 c) {vs : List Value} (hb : Blk w b vs) (hl : vs.length = size) (h1 : ∀ u ∈ vs, u.oneCell' = true)
    (h : ∀ (g cap : Nat) w', Blk w' g vs → w.heap.size ≤ g → 1 ≤ cap → (cap : Int) ≤ 9223372036854775807 → Below w.heap.size w w' → wpList P ops Q rest (a.put o.dst (.slice (some ⟨g, 0, none⟩) 1 cap)) w') : wpList P ops Q (o :: rest) a w :=
  wpList_plain hgd fun K hK => wp_append_first s x t e z size bytes ho ht hi hzs hsz hby hs hx hb hl h1 (fun g cap w' q1 q2 q3 q4 q5 => hK _ _ (h g cap w' q1 q2 q3 q4 q5))
end
def fresh (sh ti ep : Int) : St := { sh := sh, ti := ti, ep := ep, nu := 0, un := false, k := 0, cn := 0, ct := 0, cs := 0, ce := 0, cz := 0, se := 0, no := 0 }
def NewP (m : Nat → Prop) (sh ti ep : Int) (w : World) (e : Ending) (w' : World) : Prop := ∃ a : Nat, e = .returned (.tuple #[.pointer (some ⟨a, 0, none⟩), .int .i64 0]) ∧ AgE m w' a (fresh sh ti ep) none 0 ∧ w.heap.size ≤ a ∧ Below w.heap.size w w'
theorem neq_key (u : World) (a b c d : Int) : Sem.run Try.prog (binOp .neq 54 (.agg #[.int .i64 a, .int .i64 b]) (.agg #[.int .i64 c, .int .i64 d])) u = .ok (.bool (!(a == c && b == d))) u := by
  go_simp
  by_cases e : a = c <;> by_cases f : b = d <;> simp [e, f]
def ansV (E r b l z : Int) : Value := .agg #[.int .i64 E, .int .i64 r, .int .i64 b, .int .i64 l, .int .i64 z]
def ansL (E r b l z : Int) : List Value := [.int .i64 E, .int .i64 r, .int .i64 b, .int .i64 l, .int .i64 z]
end Ag
attribute [local go_sem] neq_key max_fold

set_option maxRecDepth 100000 in
set_option maxHeartbeats 4000000 in
theorem new_c (m : Nat → Prop) (w : World) (sh ep ti : Int) (hm : ∀ b, m b → b < w.heap.size) (h1 : 1 ≤ sh ∧ sh ≤ 8) (h2 : 1 ≤ ep) (h3 : 1 ≤ ti ∧ ti ≤ 1073741824) :
    Calls Try.prog 7 #[.int .i64 sh, .int .i64 ep, .int .i64 ti] w (NewP m sh ti ep w) := by
  obtain ⟨s1, s2⟩ := h1
  obtain ⟨t1, t2⟩ := h3
  have hb := Lib.hid (blk_new w (agC (fresh sh ti ep) (.slice none 0 0)) 57)
  have hB := Lib.hid ((Below.refl w.heap.size w).alloc (Nat.le_refl _) (.cells (agC (fresh sh ti ep) (.slice none 0 0)).toArray 57))
  replace hm := Lib.hid hm
  go_enter Try.func7, Try.ntmps7
  go_wp2_with fail
  go_ret2
  exact ⟨w.heap.size, rfl, ⟨hb.out, fun h => Nat.lt_irrefl _ (hm.out _ h), mwB hm.out hB.out.size, fun _ => rfl⟩, Nat.le_refl _, hB.out⟩

set_option maxRecDepth 100000 in
set_option maxHeartbeats 4000000 in
theorem cont_nil (w : World) (p : Option Addr) (c : Nat) (fv : Value) :
    Calls Try.prog 20 #[.slice p 0 c, fv] w fun e w' => e = .returned (.bool false) ∧ w' = w := by
  have hi := Lib.hid (idx_nil w p c fv)
  go_enter Try.func20, Try.ntmps20
  go_wp2_with fail
  refine hi.out.mono ?_
  rintro e w' ⟨rfl, rfl⟩
  go_wp2_with fail
  go_ret
  exact ⟨rfl, rfl⟩

set_option maxRecDepth 100000 in
set_option maxHeartbeats 4000000 in
theorem told_nil (w : World) (ep nu n E r b l z : Int) :
    Calls Try.prog 9 #[.pointer none, .int .i64 ep, .int .i64 nu, ansV E r b l z, .int .i64 n] w fun e w' => e = .returned (.int .i64 1) ∧ Below w.heap.size w w' := by
  unfold ansV
  have hB := Lib.hid ((Below.refl w.heap.size w).alloc (Nat.le_refl _) (.cells #[.int .i64 E, .int .i64 r, .int .i64 b, .int .i64 l, .int .i64 z] 24))
  have hat : ∀ u, Calls Try.prog 19 #[.pointer none, .int .i64 n] u fun e w' => e = .returned (.bool false) ∧ w' = u := fun u => at_nil u n
  replace hat := Lib.hid hat
  go_enter Try.func9, Try.ntmps9
  go_wp2_with fail
  refine (hat.out _).mono ?_
  rintro e w' ⟨rfl, rfl⟩
  clear hat
  go_wp2_with fail
  go_ret
  exact ⟨rfl, hB.out⟩

set_option maxRecDepth 100000 in
set_option maxHeartbeats 4000000 in
theorem told_stale {m : Nat → Prop} {w : World} {a : Nat} {A : St} (ep nu n E r b l z : Int) (hat : ∀ u, Below w.heap.size w u → AtE m a A u n) (hs : A.un = true → ¬ (ep = A.ep ∧ nu = A.nu)) :
    Calls Try.prog 9 #[.pointer (some ⟨a, 0, none⟩), .int .i64 ep, .int .i64 nu, ansV E r b l z, .int .i64 n] w (TokP m a { A with no := max A.no n } w 150) := by
  unfold ansV
  have hB := (Below.refl w.heap.size w).alloc (Nat.le_refl _) (.cells #[.int .i64 E, .int .i64 r, .int .i64 b, .int .i64 l, .int .i64 z] 24)
  have ha := Lib.hid (hat _ hB)
  have hB0 := Lib.hid (Kp.of (m := m) hB)
  clear hat hB
  go_enter Try.func9, Try.ntmps9
  go_upto_region 1 with fail
  generalize w.alloc (.cells #[.int .i64 E, .int .i64 r, .int .i64 b, .int .i64 l, .int .i64 z] 24) = W at ha hB0 ⊢
  go_wp2_with fail
  refine ha.out.mono ?_
  rintro e u ⟨p, c, rfl, h1, hB1⟩
  have hB2 := Lib.hid (hB0.out.trans hB1)
  have c4 := h1.b.c 4 _ rfl
  have c2 := h1.b.c 2 _ rfl
  have c3 := h1.b.c 3 _ rfl
  replace h1 := Lib.hid h1
  clear ha hB0 hB1
  obtain ⟨A', hA'⟩ : ∃ A', RowKit.Hid (A' = ({ A with no := max A.no n } : St)) := ⟨_, Lib.hid rfl⟩
  cases hu : A.un with
  | false =>
    rw [hu] at c4
    clear hs
    replace hu := Lib.hid hu
    go_wp2_with fail
    go_ret
    exact ⟨p, c, rfl, h1.out, hB2.out⟩
  | true =>
    have hk := hs hu
    rw [hu] at c4
    clear hs
    replace hu := Lib.hid hu
    by_cases q1 : ep = A.ep
    · have q2 : ¬ nu = A.nu := fun e => hk ⟨q1, e⟩
      subst q1
      clear hk
      go_wp2_with fail
      go_ret
      exact ⟨p, c, rfl, h1.out, hB2.out⟩
    · clear hk
      go_wp2_with fail
      go_ret
      exact ⟨p, c, rfl, h1.out, hB2.out⟩
end Go.Proofs.Ytldknmcnmhdgfaa
