/- Virtual time: rows of tags, the check, copies. -/
import Derived.Test.YtkefkophlhcbiaaV1
import Derived.Test.YtkefkophlhcbiaaQ1
import Derived.Test.YtkefkophlhcbiaaPk5
import Derived.Shelf.SlicesQ.IndexFunc
namespace Go.Proofs.Ytkefkophlhcbiaa
open Go.ChangeShapes Go.WideShapes Go.ChangeAt Go.RowKit
set_option linter.unusedVariables false
set_option linter.unusedSimpArgs false
open BigFrame Vr Pk

namespace Vr
/-- A row of tags lies in a world. -/
structure TagsAt (w : World) (a : Option Addr) (b off N : Nat) (S F : Nat → Int) : Prop where
  ha : 0 < N → a = some ⟨b, off, none⟩
  hb : 0 < N → b < w.heap.size
  c0 : ∀ i, i < N → w.cell? ⟨b, off + i * 2, none⟩ = some (.int .i64 (S i))
  c1 : ∀ i, i < N → w.cell? ⟨b, off + i * 2 + 1, none⟩ = some (.int .i64 (F i))
theorem TagsAt.below {w w' : World} {a : Option Addr} {b off N : Nat} {S F : Nat → Int} {m : Nat} (h : TagsAt w a b off N S F) (k : Below m w w') (hm : 0 < N → b < m) : TagsAt w' a b off N S F :=
  ⟨h.ha, fun hn => Nat.lt_of_lt_of_le (h.hb hn) k.size, fun i hi => (k.cell (p := ⟨b, off + i * 2, none⟩) (hm (by omega))).trans (h.c0 i hi), fun i hi => (k.cell (p := ⟨b, off + i * 2 + 1, none⟩) (hm (by omega))).trans (h.c1 i hi)⟩
theorem TagsAt.bel {w w' : World} {a : Option Addr} {b off N : Nat} {S F : Nat → Int} (h : TagsAt w a b off N S F) (k : Below w.heap.size w w') : TagsAt w' a b off N S F := h.below k h.hb
/-- May a virtual time be? -/
def VOk (V : Int) (N : Nat) (S F : Nat → Int) : Prop := 0 ≤ V ∧ V ≤ 1152921504606846976 ∧ N ≤ 8 ∧ ∀ i, i < N → 0 ≤ S i ∧ S i ≤ F i ∧ F i ≤ 1152921504606846976
theorem tagBad_no {s f : Int} : tagBad s f = false ↔ 0 ≤ s ∧ s ≤ f ∧ f ≤ 1152921504606846976 := by
  unfold tagBad; simp
def tagV (S F : Nat → Int) (n : Nat) : List Value := (List.range n).flatMap fun i => [.int .i64 (S i), .int .i64 (F i)]
theorem tagV_succ (S F : Nat → Int) (n : Nat) : tagV S F (n + 1) = tagV S F n ++ [.int .i64 (S n), .int .i64 (F n)] := by simp [tagV, List.range_succ]
theorem tagV_len (S F : Nat → Int) (n : Nat) : (tagV S F n).length = n * 2 := by
  induction n with
  | zero => rfl
  | succ n ih => rw [tagV_succ, List.length_append, ih]; simp; omega
theorem tagV_at (S F : Nat → Int) (n i : Nat) (h : i < n) : (tagV S F n)[i * 2]? = some (.int .i64 (S i)) ∧ (tagV S F n)[i * 2 + 1]? = some (.int .i64 (F i)) := by
  induction n with
  | zero => omega
  | succ n ih =>
    rw [tagV_succ]
    by_cases hi : i < n
    · rw [List.getElem?_append_left (by rw [tagV_len]; omega), List.getElem?_append_left (by rw [tagV_len]; omega)]
      exact ih hi
    · obtain rfl : i = n := by omega
      rw [List.getElem?_append_right (by rw [tagV_len]; omega), List.getElem?_append_right (by rw [tagV_len]; omega), tagV_len]
      simp
theorem tagV_one (S F : Nat → Int) (n : Nat) : ∀ u ∈ tagV S F n, u.oneCell' = true := by
  intro u hu
  simp [tagV] at hu
  obtain ⟨i, _, rfl | rfl⟩ := hu <;> rfl
def IdxP (N : Nat) (S F : Nat → Int) (w : World) (e : Ending) (w' : World) : Prop := ∃ r : Int, e = .returned (.int .i64 r) ∧ (r < 0 ↔ ∀ i, i < N → tagBad (S i) (F i) = false) ∧ Below w.heap.size w w'
end Vr

theorem info_tags : (Try.prog.info? 124).map (fun i => (i.zero, i.size, i.bytes)) = some (some (.agg #[.int .i64 0, .int .i64 0]), 2, 16) := by kernel_rfl

set_option maxRecDepth 100000 in
set_option maxHeartbeats 2000000 in
theorem vidx_c (a : Option Addr) (b off N c : Nat) (S F : Nat → Int) (w : World) (T : TagsAt w a b off N S F) (hN : N ≤ 1000) :
    Calls Try.prog 73 #[.slice a N c, .func (.func 72) #[] #[]] w (IdxP N S F w) := by
  by_cases h0 : 0 < N
  · obtain rfl := T.ha h0
    have hrow : ∀ (W : World), Below w.heap.size w W → ∀ j, j < N → W.cell? ⟨b, off + j * 2, none⟩ = some (.int .i64 (S j)) ∧ W.cell? ⟨b, off + j * 2 + 1, none⟩ = some (.int .i64 (F j)) := fun W hW j hj => ⟨(T.bel hW).c0 j hj, (T.bel hW).c1 j hj⟩
    clear T
    go_enter Try.func73, Try.ntmps73
    go_wp2_with fail
    go_loopg [5, 8] N (fun gg _ s8 wr => ∃ kk : Nat, kk ≤ N ∧ N - kk ≤ gg ∧ s8 = .int .i64 kk ∧ Aside (Below w.heap.size w wr) ∧ Aside (∀ j, j < kk → tagBad (S j) (F j) = false))
    case atStart => exact ⟨0, Nat.zero_le _, by omega, rfl, Below.refl _ w, fun j hj => absurd hj (Nat.not_lt_zero _)⟩
    case round =>
      obtain ⟨kk, hkk, hg, rfl, BW, A⟩ := hrel
      by_cases hlt : kk < N
      · have hltz : (kk : Int) < (N : Int) := by omega
        obtain ⟨l0, l1⟩ := hrow wr BW.out kk hlt
        have hcall := vtag_c (S kk) (F kk) wr
        have hB2 := BW.out.alloc BW.out.size (.cells #[.int .i64 (S kk), .int .i64 (F kk)] 124)
        cases hq : tagBad (S kk) (F kk) with
        | true =>
          rw [hq] at hcall
          go_wp2_with fail
          refine hcall.mono ?_
          rintro e w' ⟨rfl, rfl⟩
          go_wp2_with fail
          go_ret
          exact ⟨_, rfl, ⟨fun h => absurd h (by omega), fun h => by have := h kk hlt; rw [hq] at this; cases this⟩, hB2⟩
        | false =>
          rw [hq] at hcall
          go_wp2_with fail
          refine hcall.mono ?_
          rintro e w' ⟨rfl, rfl⟩
          go_wp2_with fail
          go_roundg (N - (kk + 1))
          case measure => omega
          case rel =>
            refine ⟨kk + 1, by omega, by omega, by go_num, hB2, (show Aside _ from fun j hj => ?_)⟩
            by_cases e : j = kk
            · subst e
              exact hq
            · exact A.out j (by omega)
      · have hltz : ¬ (kk : Int) < (N : Int) := by omega
        have : kk = N := by omega
        subst this
        go_wp2
        go_ret
        exact ⟨_, rfl, ⟨fun _ => A.out, fun _ => by omega⟩, BW.out⟩
  · obtain rfl : N = 0 := by omega
    clear T
    go_enter Try.func73, Try.ntmps73
    go_wp2_with fail
    go_loopg [5, 8] 0 (fun _ _ s8 wr => s8 = .int .i64 0 ∧ wr = w)
    case atStart => exact ⟨rfl, rfl⟩
    case round =>
      obtain ⟨rfl, rfl⟩ := hrel
      go_wp2
      go_ret
      exact ⟨_, rfl, ⟨fun _ j hj => absurd hj (Nat.not_lt_zero _), fun _ => by omega⟩, Below.refl _ _⟩

set_option maxRecDepth 100000 in
theorem vcontains_c (a : Option Addr) (b off N c : Nat) (S F : Nat → Int) (w : World) (T : TagsAt w a b off N S F) (hN : N ≤ 1000) :
    Calls Try.prog 71 #[.slice a N c, .func (.func 72) #[] #[]] w fun e w' => e = .returned (.bool (!decide (∀ i, i < N → tagBad (S i) (F i) = false))) ∧ Below w.heap.size w w' := by
  have hc := vidx_c a b off N c S F w T hN
  clear T
  go_enter Try.func71, Try.ntmps71
  go_wp2_with (go_at_call 73; refine hc.mono ?_; rintro e w' ⟨r, rfl, hr, hb⟩)
  go_ret
  refine ⟨?_, hb⟩
  by_cases h : r < 0
  · rw [decide_eq_true (hr.1 h), decide_eq_false (by omega)]; rfl
  · rw [decide_eq_false (fun k => h (hr.2 k)), decide_eq_true (by omega)]; rfl

set_option maxRecDepth 100000 in
set_option maxHeartbeats 2000000 in
theorem vcheck_ok (V : Int) (a : Option Addr) (b off N c : Nat) (S F : Nat → Int) (w : World) (T : TagsAt w a b off N S F) (h : VOk V N S F) :
    Calls Try.prog 60 #[.agg #[.int .i64 V, .slice a N c]] w fun e w' => e = .returned (.bool true) ∧ Below w.heap.size w w' := by
  obtain ⟨h1, h2, h3, h4⟩ := h
  have h5 : (N : Int) ≤ 8 := by omega
  have hB := (Below.refl w.heap.size w).alloc (Nat.le_refl _) (.cells #[.int .i64 V, .slice a N c] 96)
  have hc := vcontains_c a b off N c S F _ (T.bel hB) (by omega)
  rw [decide_eq_true (fun i hi => tagBad_no.2 (h4 i hi))] at hc
  clear T h4
  go_enter Try.func60, Try.ntmps60
  go_wp2_with (go_at_call 71; refine hc.mono ?_; rintro e w' ⟨rfl, hb⟩)
  go_ret
  exact ⟨rfl, bNext hB hb (Nat.le_refl _)⟩

set_option maxRecDepth 100000 in
set_option maxHeartbeats 4000000 in
theorem vcheck_no (V : Int) (a : Option Addr) (b off N c : Nat) (S F : Nat → Int) (w : World) (T : TagsAt w a b off N S F) (hN : N ≤ 1000) (h : ¬ VOk V N S F) :
    Calls Try.prog 60 #[.agg #[.int .i64 V, .slice a N c]] w fun e w' => e = .returned (.bool false) ∧ Below w.heap.size w w' := by
  have hB := (Below.refl w.heap.size w).alloc (Nat.le_refl _) (.cells #[.int .i64 V, .slice a N c] 96)
  have hc := vcontains_c a b off N c S F _ (T.bel hB) (by omega)
  by_cases h1 : 0 ≤ V
  · by_cases h2 : V ≤ 1152921504606846976
    · by_cases h3 : (N : Int) ≤ 8
      · rw [decide_eq_false (fun k => h ⟨h1, h2, by omega, fun i hi => tagBad_no.1 (k i hi)⟩)] at hc
        clear T h
        go_enter Try.func60, Try.ntmps60
        go_wp2_with (go_at_call 71; refine hc.mono ?_; rintro e w' ⟨rfl, hb⟩)
        go_ret
        exact ⟨rfl, bNext hB hb (Nat.le_refl _)⟩
      · clear T hc h
        go_enter Try.func60, Try.ntmps60
        go_wp2_with fail
        go_ret
        exact ⟨rfl, hB⟩
    · clear T hc h
      go_enter Try.func60, Try.ntmps60
      go_wp2_with fail
      go_ret
      exact ⟨rfl, hB⟩
  · clear T hc h
    go_enter Try.func60, Try.ntmps60
    go_wp2_with fail
    go_ret
    exact ⟨rfl, hB⟩


/-- What a copy of a row of tags is. -/
def CloneP (N : Nat) (S F : Nat → Int) (w : World) (e : Ending) (w' : World) : Prop := ∃ (a' : Option Addr) (g c' : Nat), e = .returned (.slice a' N c') ∧ TagsAt w' a' g 0 N S F ∧ (0 < N → w.heap.size ≤ g ∧ ∀ o, w'.frozen? ⟨g, o, none⟩ = false) ∧ Below w.heap.size w w'

section
variable {P : Program}
/-- Nothing is appended. -/
theorem wpList_append_zero {w : World} {ops : Array Oper} {rest : List Oper} {o : Oper} {a : Act} {Q : Exit → Act → World → Prop} (hgd : o.guard = none) (s x : Operand) (t : TypeId)
    (ho : o.op = .call { callee := .builtin .append, args := #[s, x], argTypes := #[t, t] })
    (base : Nat) (e : TypeId) (i : TypeInfo) (size : Nat) (ht : P.underlying t = some (.slice e)) (hi : P.info? e = some i)
    (v : Value) (n : Nat) (xs : List Value) (hs : a.eval s = v) (hown : w.ownsRow base e size v n xs)
    (b : Option Addr) (c : Nat) (hx : a.eval x = .slice b 0 c) (h : wpList P ops Q rest (a.put o.dst v) w) : wpList P ops Q (o :: rest) a w := by
  have hrun := run_append_zero (P := P) w base t o.type e i size ht hi _ n xs hown b c
  refine wpList_plain hgd fun K hK => ?_
  unfold Oper.wp
  simp [execOp, ho, resolve, invoke, builtin, hs, hx, hrun, Result.andThen]
  exact hK _ _ h
end
set_option maxRecDepth 100000 in
theorem eql_tags_nil (c : Nat) (u : World) : Sem.run Try.prog (binOp BinOp.eql 94 (.slice none 0 c) (.slice none 0 0)) u = .ok (.bool true) u := by rfl
set_option maxRecDepth 100000 in
theorem eql_tags_some (a : Addr) (l c : Nat) (u : World) : Sem.run Try.prog (binOp BinOp.eql 94 (.slice (some a) l c) (.slice none 0 0)) u = .ok (.bool false) u := by rfl
attribute [local go_sem] eql_tags_nil eql_tags_some

set_option maxRecDepth 100000 in
theorem vclone_c (a : Option Addr) (b off N c : Nat) (S F : Nat → Int) (w : World) (T : TagsAt w a b off N S F) (hN : N ≤ 1000) :
    Calls Try.prog 64 #[.slice a N c] w (CloneP N S F w) := by
  obtain ⟨i0, hi0, hz0, hz1, hz2⟩ := info_parts info_tags
  have hown0 : (w.alloc (.cells #[] 124)).ownsRow w.heap.size 124 2 (.slice (some ⟨w.heap.size, 0, none⟩) 0 0) 0 [] := World.ownsRow_lit (base := w.heap.size) (e := 124) (size := 2) w #[] 0 (Nat.le_refl _) (by unfold maxLen; omega) (by rfl)
  have hB0 : Below w.heap.size w (w.alloc (.cells #[] 124)) := (Below.refl _ _).alloc (Nat.le_refl _) _
  by_cases h0 : 0 < N
  · obtain rfl := T.ha h0
    have hcells : ∀ j u, (tagV S F N)[j]? = some u → (w.alloc (.cells #[] 124)).cell? ((⟨b, off, none⟩ : Addr).add j) = some u := fun j u hu => by
      have hj : j < N * 2 := by have := (List.getElem?_eq_some_iff.1 hu).1; rwa [tagV_len] at this
      rw [Addr.add_lit]
      refine (hB0.cell (p := ⟨b, off + j, none⟩) (T.hb h0)).trans ?_
      have hk := tagV_at S F N (j / 2) (by omega)
      rcases (show j = j / 2 * 2 ∨ j = j / 2 * 2 + 1 by omega) with h | h
      · rw [h] at hu ⊢
        rw [hk.1] at hu
        rw [← hu]
        exact T.c0 (j / 2) (by omega)
      · rw [h] at hu ⊢
        rw [hk.2] at hu
        rw [← hu, ← Nat.add_assoc]
        exact T.c1 (j / 2) (by omega)
    have hmx : 0 + N ≤ maxLen := by unfold maxLen; omega
    clear T
    go_enter Try.func64, Try.ntmps64
    go_wp2_with (at_builtin; refine wpList_append_lies _ rfl _ _ 94 (by rfl) w.heap.size 124 i0 _ 2 16 Try.underlying94 hi0 hz0 hz1 hz2 (by rfl) (by omega) _ _ _ (by rfl) hown0 ⟨b, off, none⟩ N c _ (by rfl) (tagV_len S F N) hcells (tagV_one S F N) h0 hmx (by omega) hB0.size (w.heap.size + 1) (by simp) ?_; intro g1 cap1 w3 hown1 hgrow1 hat1 hlt1)
    rw [Nat.zero_add] at hown1
    have hg : w.heap.size ≤ g1 := (hown1.lt g1 rfl).1
    have hB3 : Below w.heap.size w w3 := hB0.grown hgrow1 hB0.size (fun q hq => by have := (hown0.lt q hq).1; omega)
    go_ret
    refine ⟨_, g1, cap1, rfl, ⟨fun _ => rfl, fun _ => hlt1, fun i hi => ?_, fun i hi => ?_⟩, fun _ => ⟨hg, fun o => hown1.frozenAt o⟩, hB3⟩
    · rw [Nat.zero_add, hown1.cellAt (i * 2) (by omega), List.nil_append]
      exact (tagV_at S F N i hi).1
    · rw [Nat.zero_add, hown1.cellAt (i * 2 + 1) (by omega), List.nil_append]
      exact (tagV_at S F N i hi).2
  · obtain rfl : N = 0 := by omega
    clear T
    have noT : ∀ W (a' : Option Addr), TagsAt W a' 0 0 0 S F := fun W a' => ⟨fun h => absurd h (by omega), fun h => absurd h (by omega), fun i hi => absurd hi (by omega), fun i hi => absurd hi (by omega)⟩
    cases a with
    | none =>
      go_enter Try.func64, Try.ntmps64
      go_wp2_with fail
      go_ret
      exact ⟨_, 0, _, rfl, noT _ _, fun h => absurd h (by omega), Below.refl _ _⟩
    | some x =>
      go_enter Try.func64, Try.ntmps64
      go_wp2_with (at_builtin; refine wpList_append_zero rfl _ _ 94 (by rfl) w.heap.size 124 i0 2 Try.underlying94 hi0 _ _ _ (by rfl) hown0 (some x) c (by rfl) ?_)
      go_ret
      exact ⟨_, 0, _, rfl, noT _ _, fun h => absurd h (by omega), hB0⟩
end Go.Proofs.Ytkefkophlhcbiaa
