/- The scheduler run over queues: rows of ints, heads and queues. -/
import Derived.Test.YtbbcongfaoopcaaF23
namespace Go.Proofs.Ytbbcongfaoopcaa
open Go.ChangeShapes Go.WideShapes Go.ChangeAt Go.RowKit Go.Maps
set_option linter.unusedVariables false
set_option linter.unusedSimpArgs false
open BigFrame Pk Fq Vr Fa

namespace Fa
def zC (l : List Int) : List Value := l.map (fun x => .int .i64 x)
theorem zC_len (l : List Int) : (zC l).length = l.length := by simp [zC]
theorem zC_at {l : List Int} {i : Nat} {x : Int} (h : l[i]? = some x) : (zC l)[i]? = some (.int .i64 x) := by simp [zC, h]
theorem zC_app (l : List Int) (x : Int) : zC (l ++ [x]) = zC l ++ [.int .i64 x] := by simp [zC]
/-- A slice of ints reads so. -/
structure IAt (w : World) (a : Option Addr) (n c : Nat) (d : List Int) : Prop where
  len : d.length = n
  cap : n ≤ c
  max : c ≤ 9223372036854775807
  row : 0 < n → ∃ b off, a = some ⟨b, off, none⟩ ∧ b < w.heap.size ∧ ∀ i x, d[i]? = some x → w.cell? ⟨b, off + i, none⟩ = some (.int .i64 x)
theorem IAt.below {w w' : World} {a : Option Addr} {n c m : Nat} {d : List Int} (h : IAt w a n c d) (k : Below m w w') (hm : ∀ b off, a = some ⟨b, off, none⟩ → 0 < n → b < m) : IAt w' a n c d :=
  ⟨h.len, h.cap, h.max, fun hn => by
    obtain ⟨b, off, rfl, hb, hc⟩ := h.row hn
    exact ⟨b, off, rfl, Nat.lt_of_lt_of_le hb k.size, fun i x hx => (k.cell (p := ⟨b, off + i, none⟩) (hm b off rfl hn)).trans (hc i x hx)⟩⟩
theorem IAt.bel {w w' : World} {a : Option Addr} {n c : Nat} {d : List Int} (h : IAt w a n c d) (k : Below w.heap.size w w') : IAt w' a n c d :=
  h.below k (fun b off e hn => by obtain ⟨b', off', e', hb, _⟩ := h.row hn; rw [e] at e'; cases e'; exact hb)
theorem IAt.nil (w : World) (a : Option Addr) (c : Nat) (h : c ≤ 9223372036854775807) : IAt w a 0 c [] := ⟨rfl, Nat.zero_le _, h, fun q => absurd q (Nat.lt_irrefl _)⟩
/-- A row of slices. -/
def sC (A : Nat → Option Addr) (L C : Nat → Nat) (N : Nat) : List Value := (List.range N).map fun i => .slice (A i) (L i) (C i)
theorem sC_len (A : Nat → Option Addr) (L C : Nat → Nat) (N : Nat) : (sC A L C N).length = N := by simp [sC]
theorem sC_at (A : Nat → Option Addr) (L C : Nat → Nat) (N i : Nat) (h : i < N) : (sC A L C N)[i]? = some (.slice (A i) (L i) (C i)) := by simp [sC, h]
theorem sC_one (A : Nat → Option Addr) (L C : Nat → Nat) (N : Nat) : ∀ u ∈ sC A L C N, u.oneCell' = true := by
  intro u hu
  obtain ⟨i, _, rfl⟩ := List.mem_map.1 hu
  rfl
/-- Queues as they came in. -/
structure QsAt (w : World) (a : Option Addr) (b off N : Nat) (A : Nat → Option Addr) (L C : Nat → Nat) (Q : Nat → List Int) : Prop where
  ha : 0 < N → a = some ⟨b, off, none⟩
  hb : 0 < N → b < w.heap.size
  c0 : ∀ i, i < N → w.cell? ⟨b, off + i, none⟩ = some (.slice (A i) (L i) (C i))
  q : ∀ i, i < N → IAt w (A i) (L i) (C i) (Q i)
theorem QsAt.bel {w w' : World} {a : Option Addr} {b off N : Nat} {A : Nat → Option Addr} {L C : Nat → Nat} {Q : Nat → List Int} (h : QsAt w a b off N A L C Q) (k : Below w.heap.size w w') : QsAt w' a b off N A L C Q :=
  ⟨h.ha, fun hn => Nat.lt_of_lt_of_le (h.hb hn) k.size, fun i hi => (k.cell (p := ⟨b, off + i, none⟩) (h.hb (by omega))).trans (h.c0 i hi), fun i hi => (h.q i hi).bel k⟩
def OwnZ (w : World) (B : Nat) (v : Value) (l : List Int) : Prop := w.ownsRow B 3 1 v l.length (zC l)
theorem OwnZ.lt {w : World} {B : Nat} {v : Value} {l : List Int} (h : OwnZ w B v l) {q : Nat} (hq : v.ownBlock = some q) : B ≤ q ∧ q < w.heap.size := by
  unfold OwnZ at h
  exact h.lt q hq
theorem OwnZ.kf {w w' : World} {B : Nat} {v : Value} {r : List Int} {l : List Nat} (h : OwnZ w B v r) (k : KF l w w') (hl : ∀ q, v.ownBlock = some q → q ∉ l) : OwnZ w' B v r := by
  refine ⟨h.1, ?_⟩
  rcases h.2 with hh | ⟨g, cap, cur, h1, h2, h3, h4⟩
  · exact .inl hh
  · exact .inr ⟨g, cap, cur, h1, h2, (k.k g (Array.getElem?_eq_some_iff.1 h3).1 (hl g (by rw [h1]; rfl))).trans h3, h4⟩
theorem OwnZ.nil (w : World) (B : Nat) : OwnZ w B (.slice none 0 0) [] := ⟨rfl, .inl ⟨rfl, rfl⟩⟩
theorem OwnZ.iat {w : World} {B : Nat} {a : Option Addr} {n c : Nat} {l : List Int} (h : OwnZ w B (.slice a n c) l) (hn : n = l.length) (hc : n ≤ c) (hm : c ≤ 9223372036854775807) : IAt w a n c l := by
  refine ⟨hn.symm, hc, hm, fun h0 => ?_⟩
  subst hn
  unfold OwnZ at h
  obtain ⟨g, cap, e, hb, hl⟩ := h.form h0
  cases e
  refine ⟨g, 0, rfl, hl, fun i x hx => ?_⟩
  have hi : i < l.length := (List.getElem?_eq_some_iff.1 hx).1
  rw [Nat.zero_add, h.cellAt i (by omega)]
  exact zC_at hx
theorem info_int : (Try.prog.info? 3).map (fun i => (i.zero, i.size, i.bytes)) = some (some (.int .i64 0), 1, 8) := by kernel_rfl
theorem wpList_appZ {w : World} {ops : Array Oper} {rest : List Oper} {o : Oper} {a : Act} {Q : Exit → Act → World → Prop} (hgd : o.guard = none) (s x : Operand)
    (ho : o.op = .call { callee := .builtin .append, args := #[s, x], argTypes := #[22, 22] }) (B : Nat) (v : Value) (l : List Int) (y : Int) (hs : a.eval s = v) (hown : OwnZ w B v l) (hB : B ≤ w.heap.size)
    {q c : Nat} (hx : a.eval x = .slice (some ⟨q, 0, none⟩) 1 c) (hk : Blk w q [.int .i64 y]) (hl : l.length ≤ 1000000)
    (h : ∀ (a' : Option Addr) (n' c' : Nat) w', OwnZ w' B (.slice a' n' c') (l ++ [y]) → n' = l.length + 1 → w'.heap.size ≥ w.heap.size → w.grownBy w' v.ownBlock → ((Value.slice a' n' c').ownBlock = v.ownBlock ∨ (Value.slice a' n' c').ownBlock = some w.heap.size) → wpList Try.prog ops Q rest (a.put o.dst (.slice a' n' c')) w') : wpList Try.prog ops Q (o :: rest) a w := by
  obtain ⟨i0, hi0, hz0, hz1, hz2⟩ := info_parts info_int
  refine wpList_append_own_at w hgd s x 22 ho B 3 i0 _ 1 8 Try.underlying22 hi0 hz0 hz1 hz2 rfl (by omega) v l.length (zC l) hs hown ⟨q, 0, none⟩ 1 c [.int .i64 y] hx rfl (fun j u hj => ?_) (by intro u hu; simp at hu; rcases hu with rfl; rfl) (by unfold maxLen; omega) (by omega) hB (fun v' w' h1 h2 _ h4 => ?_)
  · have := hk.c j u hj
    rw [Addr.add_lit, Nat.zero_add]
    exact this
  · have h3 : OwnZ w' B v' (l ++ [y]) := by
      unfold OwnZ
      rw [zC_app, List.length_append]
      exact h1
    have h5 := h3
    unfold OwnZ at h5
    rcases h5.2 with ⟨e, e2⟩ | ⟨g, cap, cur, e, _⟩
    · simp at e2
    · subst e
      exact h _ _ _ w' h3 (by simp) h2.size h2 h4
/-- Heads: their sizes, no weights. -/
def OwnH (w : World) (B : Nat) (v : Value) (H : Nat → Int) (n : Nat) : Prop := w.ownsRow B 60 2 v n (tagV H nz n)
theorem OwnH.lt {w : World} {B : Nat} {v : Value} {H : Nat → Int} {n : Nat} (h : OwnH w B v H n) {q : Nat} (hq : v.ownBlock = some q) : B ≤ q ∧ q < w.heap.size := by
  unfold OwnH at h
  exact h.lt q hq
theorem OwnH.kf {w w' : World} {B : Nat} {v : Value} {H : Nat → Int} {n : Nat} {l : List Nat} (h : OwnH w B v H n) (k : KF l w w') (hl : ∀ q, v.ownBlock = some q → q ∉ l) : OwnH w' B v H n := by
  refine ⟨h.1, ?_⟩
  rcases h.2 with hh | ⟨g, cap, cur, h1, h2, h3, h4⟩
  · exact .inl hh
  · exact .inr ⟨g, cap, cur, h1, h2, (k.k g (Array.getElem?_eq_some_iff.1 h3).1 (hl g (by rw [h1]; rfl))).trans h3, h4⟩
theorem OwnH.nil (w : World) (B : Nat) (H : Nat → Int) : OwnH w B (.slice none 0 0) H 0 := ⟨rfl, .inl ⟨rfl, rfl⟩⟩
theorem OwnH.tags {w : World} {B : Nat} {a : Option Addr} {n c : Nat} {H : Nat → Int} (h : OwnH w B (.slice a n c) H n) (hn : 0 < n) : ∃ g, a = some ⟨g, 0, none⟩ ∧ B ≤ g ∧ TagsAt w (some ⟨g, 0, none⟩) g 0 n H nz := by
  unfold OwnH at h
  obtain ⟨g, cap, e, hb, hl⟩ := h.form hn
  cases e
  refine ⟨g, rfl, hb, fun _ => rfl, fun _ => hl, fun i hi => ?_, fun i hi => ?_⟩
  · rw [Nat.zero_add, h.cellAt (i * 2) (by omega)]
    exact (tagV_at H nz n i hi).1
  · rw [Nat.zero_add, h.cellAt (i * 2 + 1) (by omega)]
    exact (tagV_at H nz n i hi).2
theorem info_head : (Try.prog.info? 60).map (fun i => (i.zero, i.size, i.bytes)) = some (some (.agg #[.int .i64 0, .int .i64 0]), 2, 16) := by kernel_rfl
theorem wpList_appH {w : World} {ops : Array Oper} {rest : List Oper} {o : Oper} {a : Act} {Q : Exit → Act → World → Prop} (hgd : o.guard = none) (s x : Operand)
    (ho : o.op = .call { callee := .builtin .append, args := #[s, x], argTypes := #[43, 43] }) (B : Nat) (v : Value) (H : Nat → Int) (n : Nat) (hs : a.eval s = v) (hown : OwnH w B v H n) (hB : B ≤ w.heap.size)
    {q c : Nat} (hx : a.eval x = .slice (some ⟨q, 0, none⟩) 1 c) (hk : Blk w q [.int .i64 (H n), .int .i64 0]) (hl : n ≤ 1000000)
    (h : ∀ (a' : Option Addr) (n' c' : Nat) w', OwnH w' B (.slice a' n' c') H (n + 1) → n' = n + 1 → w'.heap.size ≥ w.heap.size → w.grownBy w' v.ownBlock → ((Value.slice a' n' c').ownBlock = v.ownBlock ∨ (Value.slice a' n' c').ownBlock = some w.heap.size) → wpList Try.prog ops Q rest (a.put o.dst (.slice a' n' c')) w') : wpList Try.prog ops Q (o :: rest) a w := by
  obtain ⟨i0, hi0, hz0, hz1, hz2⟩ := info_parts info_head
  refine wpList_append_own_at w hgd s x 43 ho B 60 i0 _ 2 16 Try.underlying43 hi0 hz0 hz1 hz2 rfl (by omega) v n (tagV H nz n) hs hown ⟨q, 0, none⟩ 1 c [.int .i64 (H n), .int .i64 0] hx rfl (fun j u hj => ?_) (by intro u hu; simp at hu; rcases hu with rfl | rfl <;> rfl) (by unfold maxLen; omega) (by omega) hB (fun v' w' h1 h2 _ h4 => ?_)
  · have := hk.c j u hj
    rw [Addr.add_lit, Nat.zero_add]
    exact this
  · have h3 : OwnH w' B v' H (n + 1) := by
      unfold OwnH
      rw [tagV_succ]
      exact h1
    rcases h3.2 with ⟨e, e2⟩ | ⟨g, cap, cur, e, _⟩
    · simp at e2
    · subst e
      exact h _ _ _ w' h3 rfl h2.size h2 h4
theorem info_ints : (Try.prog.info? 22).map (fun i => (i.zero, i.size, i.bytes)) = some (some (.slice none 0 0), 1, 24) := by kernel_rfl
def CloneQ (N : Nat) (A : Nat → Option Addr) (L C : Nat → Nat) (w : World) (e : Ending) (w' : World) : Prop := ∃ (g c : Nat), e = .returned (.slice (some ⟨g, 0, none⟩) N c) ∧ Blk w' g (sC A L C N) ∧ w.heap.size ≤ g ∧ Below w.heap.size w w'
def sizeBad (x : Int) : Bool := decide (x < 1) || decide (1500 < x)
end Fa
@[local go_sem]
theorem eql_qs_some (a : Addr) (l c : Nat) (u : World) : Sem.run Try.prog (binOp BinOp.eql 23 (.slice (some a) l c) (.slice none 0 0)) u = .ok (.bool false) u := by rfl

set_option maxRecDepth 100000 in
theorem qclone_c {a : Option Addr} {b off N : Nat} {A : Nat → Option Addr} {L C : Nat → Nat} {Q : Nat → List Int} (c : Nat) (w : World) (T : QsAt w a b off N A L C Q) (hN : N ≤ 1000) (h0 : 0 < N) :
    Calls Try.prog 22 #[.slice a N c] w (CloneQ N A L C w) := by
  obtain ⟨i0, hi0, hz0, hz1, hz2⟩ := info_parts info_ints
  obtain rfl := T.ha h0
  have hown0 : (w.alloc (.cells #[] 22)).ownsRow w.heap.size 22 1 (.slice (some ⟨w.heap.size, 0, none⟩) 0 0) 0 [] := World.ownsRow_lit (base := w.heap.size) (e := 22) (size := 1) w #[] 0 (Nat.le_refl _) (by unfold maxLen; omega) (by rfl)
  have hB0 : Below w.heap.size w (w.alloc (.cells #[] 22)) := (Below.refl _ _).alloc (Nat.le_refl _) _
  have hcells : ∀ j u, (sC A L C N)[j]? = some u → (w.alloc (.cells #[] 22)).cell? ((⟨b, off, none⟩ : Addr).add j) = some u := fun j u hu => by
    have hj : j < N := by have := (List.getElem?_eq_some_iff.1 hu).1; rwa [sC_len] at this
    rw [Addr.add_lit]
    refine (hB0.cell (p := ⟨b, off + j, none⟩) (T.hb h0)).trans ?_
    rw [sC_at A L C N j hj] at hu
    rw [← hu]
    exact T.c0 j hj
  have hmx : 0 + N ≤ maxLen := by unfold maxLen; omega
  have hlen : (sC A L C N).length = N * 1 := by rw [sC_len]; omega
  clear T
  go_enter Try.func22, Try.ntmps22
  go_wp2_with (at_builtin; refine wpList_append_lies _ rfl _ _ 23 (by rfl) w.heap.size 22 i0 _ 1 24 Try.underlying23 hi0 hz0 hz1 hz2 (by rfl) (by omega) _ _ _ (by rfl) hown0 ⟨b, off, none⟩ N c _ (by rfl) hlen hcells (sC_one A L C N) h0 hmx (by omega) hB0.size (w.heap.size + 1) (by simp) ?_; intro g1 cap1 w3 hown1 hgrow1 hat1 hlt1)
  rw [Nat.zero_add] at hown1
  have hg : w.heap.size ≤ g1 := (hown1.lt g1 rfl).1
  have hB3 : Below w.heap.size w w3 := hB0.grown hgrow1 hB0.size (fun q hq => by have := (hown0.lt q hq).1; omega)
  go_ret
  refine ⟨g1, cap1, rfl, ⟨fun i x hx => ?_, fun o => hown1.frozenAt o, hlt1⟩, hg, hB3⟩
  have hi : i < (sC A L C N).length := (List.getElem?_eq_some_iff.1 hx).1
  rw [sC_len] at hi
  rw [hown1.cellAt i (by omega), List.nil_append]
  exact hx

set_option maxRecDepth 100000 in
set_option maxHeartbeats 2000000 in
theorem sbad_c (s : Int) (w : World) :
    Calls Try.prog 21 #[.int .i64 s] w fun e w' => e = .returned (.bool (sizeBad s)) ∧ w' = w := by
  unfold sizeBad
  by_cases h1 : s < 1
  · go_enter Try.func21, Try.ntmps21
    go_wp2_with fail
    exact bodyPost_ret (v := .bool true) (by simp [results, Try.results21, go_sem]) rfl ⟨by simp [h1], rfl⟩
  by_cases h3 : 1500 < s
  · go_enter Try.func21, Try.ntmps21
    go_wp2_with fail
    exact bodyPost_ret (v := .bool true) (by simp [results, Try.results21, go_sem]) rfl ⟨by simp [h3], rfl⟩
  · go_enter Try.func21, Try.ntmps21
    go_wp2_with fail
    exact bodyPost_ret (v := .bool false) (by simp [results, Try.results21, go_sem]) rfl ⟨by simp [h1, h3], rfl⟩

set_option maxRecDepth 100000 in
set_option maxHeartbeats 2000000 in
theorem sidx_c (a : Option Addr) (n c : Nat) (d : List Int) (w : World) (T : IAt w a n c d) (hN : n ≤ 100000) :
    Calls Try.prog 37 #[.slice a n c, .func (.func 21) #[] #[]] w fun e w' => ∃ r : Int, e = .returned (.int .i64 r) ∧ (r < 0 ↔ ∀ x, x ∈ d → sizeBad x = false) ∧ w' = w := by
  have hlen := T.len
  by_cases h0 : 0 < n
  · obtain ⟨b, off, rfl, hb, hc⟩ := T.row h0
    replace hc := Lib.hid hc
    clear T
    go_enter Try.func37, Try.ntmps37
    go_wp2_with fail
    go_loopg [5, 8] n (fun gg _ s8 wr => ∃ kk : Nat, kk ≤ n ∧ n - kk ≤ gg ∧ s8 = .int .i64 kk ∧ wr = w ∧ Aside (∀ j x, j < kk → d[j]? = some x → sizeBad x = false))
    case atStart => exact ⟨0, Nat.zero_le _, by omega, rfl, rfl, fun j x hj => absurd hj (Nat.not_lt_zero _)⟩
    case round =>
      obtain ⟨kk, hkk, hg, rfl, rfl, A⟩ := hrel
      by_cases hlt : kk < n
      · have hltz : (kk : Int) < (n : Int) := by omega
        obtain ⟨x, hx⟩ : ∃ x, d[kk]? = some x := ⟨_, List.getElem?_eq_getElem (by omega)⟩
        have l0 := hc.out kk x hx
        replace hx := Lib.hid hx
        have hcall := sbad_c x wr
        cases hq : sizeBad x with
        | true =>
          rw [hq] at hcall
          go_wp2_with fail
          refine hcall.mono ?_
          rintro e w' ⟨rfl, rfl⟩
          go_wp2_with fail
          go_ret
          exact ⟨_, rfl, ⟨fun h => absurd h (by omega), fun h => by have := h x (List.mem_of_getElem? hx.out); rw [hq] at this; cases this⟩, rfl⟩
        | false =>
          rw [hq] at hcall
          go_wp2_with fail
          refine hcall.mono ?_
          rintro e w' ⟨rfl, rfl⟩
          go_wp2_with fail
          go_roundg (n - (kk + 1))
          case measure => omega
          case rel =>
            refine ⟨kk + 1, by omega, by omega, by go_num, rfl, (show Aside _ from fun j y hj hy => ?_)⟩
            by_cases e : j = kk
            · subst e
              rw [hx.out] at hy
              cases hy
              exact hq
            · exact A.out j y (by omega) hy
      · have hltz : ¬ (kk : Int) < (n : Int) := by omega
        have : kk = n := by omega
        subst this
        go_wp2
        go_ret
        refine ⟨_, rfl, ⟨fun _ y hy => ?_, fun _ => by omega⟩, rfl⟩
        obtain ⟨j, hj⟩ := List.getElem?_of_mem hy
        exact A.out j y (by have := (List.getElem?_eq_some_iff.1 hj).1; omega) hj
  · obtain rfl : n = 0 := by omega
    obtain rfl : d = [] := List.eq_nil_of_length_eq_zero hlen
    clear T
    go_enter Try.func37, Try.ntmps37
    go_wp2_with fail
    go_loopg [5, 8] 0 (fun _ _ s8 wr => s8 = .int .i64 0 ∧ wr = w)
    case atStart => exact ⟨rfl, rfl⟩
    case round =>
      obtain ⟨rfl, rfl⟩ := hrel
      go_wp2
      go_ret
      exact ⟨_, rfl, ⟨fun _ x hx => by simp at hx, fun _ => by omega⟩, rfl⟩

set_option maxRecDepth 100000 in
theorem scontains_c (a : Option Addr) (n c : Nat) (d : List Int) (w : World) (T : IAt w a n c d) (hN : n ≤ 100000) :
    Calls Try.prog 20 #[.slice a n c, .func (.func 21) #[] #[]] w fun e w' => e = .returned (.bool (!decide (∀ x, x ∈ d → sizeBad x = false))) ∧ w' = w := by
  have hc := sidx_c a n c d w T hN
  clear T
  go_enter Try.func20, Try.ntmps20
  go_wp2_with (go_at_call 37; refine hc.mono ?_; rintro e w' ⟨r, rfl, hr, rfl⟩)
  go_ret
  refine ⟨?_, rfl⟩
  by_cases h : r < 0
  · rw [decide_eq_true (hr.1 h), decide_eq_false (by omega)]; rfl
  · rw [decide_eq_false (fun k => h (hr.2 k)), decide_eq_true (by omega)]; rfl
end Go.Proofs.Ytbbcongfaoopcaa
