/- The contract of packet.Build. -/
import Derived.Test.YtkefkophlhcbiaaPk4
namespace Go.Proofs.Ytkefkophlhcbiaa
open Go.ChangeShapes Go.WideShapes Go.ChangeAt Go.RowKit
set_option linter.unusedVariables false
set_option linter.unusedSimpArgs false
open Pk BigFrame

namespace Pk
section
variable {P : Program}
theorem run_append_zero (w : World) (base : Nat) (t ty e : TypeId) (i : TypeInfo) (size : Nat) (ht : P.underlying t = some (.slice e)) (hi : P.info? e = some i)
    (v : Value) (n : Nat) (xs : List Value) (hown : w.ownsRow base e size v n xs) (b : Option Addr) (d : Nat) :
    (Builtin.append_ #[t, t] ty #[v, .slice b 0 d]).run P w = .ok v w := by
  have hf := run_firstCells_some (P := P) w i.size 0
  cases b with
  | none =>
    rcases hown.2 with ⟨rfl, rfl⟩ | ⟨g, cap, cur, rfl, _, _, hnc, _⟩
    · simp [Builtin.append_, run_underlying ht, sizeOf, typeInfo, hi, Builtin.lenOf, Builtin.firstCells]
    · simp [Builtin.append_, run_underlying ht, sizeOf, typeInfo, hi, Builtin.lenOf, Builtin.firstCells, hnc, storeCells]
  | some ad =>
    have hc := hf ad 0 d [] (by simp) (by intro j u h; simp at h)
    rcases hown.2 with ⟨rfl, rfl⟩ | ⟨g, cap, cur, rfl, _, _, hnc, _⟩
    · simp [Builtin.append_, run_underlying ht, sizeOf, typeInfo, hi, Builtin.lenOf, hc]
    · simp [Builtin.append_, run_underlying ht, sizeOf, typeInfo, hi, Builtin.lenOf, hnc, storeCells, hc]

theorem wpList_append_any {w : World} {ops : Array Oper} {rest : List Oper} {o : Oper} {a : Act} {Q : Exit → Act → World → Prop} (hgd : o.guard = none) (s x : Operand) (t : TypeId)
    (ho : o.op = .call { callee := .builtin .append, args := #[s, x], argTypes := #[t, t] })
    (base : Nat) (e : TypeId) (i : TypeInfo) (z : Value) (size bytes : Nat) (ht : P.underlying t = some (.slice e)) (hi : P.info? e = some i) (hz : i.zero = some z)
    (hsize : i.size = size) (hby : i.bytes = bytes) (hzs : z.cells.size = size) (hsz : 0 < size)
    (v : Value) (n : Nat) (xs : List Value) (hs : a.eval s = v) (hown : w.ownsRow base e size v n xs) (hn : 0 < n)
    (b : Option Addr) (m c : Nat) (news : List Value) (hx : a.eval x = .slice b m c) (hl : news.length = m * size) (hnews : 0 < m → ∃ ad, b = some ad ∧ ∀ j u, news[j]? = some u → w.cell? (ad.add j) = some u) (h1 : ∀ u ∈ news, u.oneCell' = true)
    (h63 : n + m ≤ maxLen) (hbytes : (n + m) * bytes ≤ 140737488355328) (hbase : base ≤ w.heap.size)
    (h : ∀ g cap w', w'.ownsRow base e size (.slice (some ⟨g, 0, none⟩) (n + m) cap) (n + m) (xs ++ news) → w.grownBy w' v.ownBlock → base ≤ g → g < w'.heap.size → n + m ≤ cap → cap ≤ maxLen → wpList P ops Q rest (a.put o.dst (.slice (some ⟨g, 0, none⟩) (n + m) cap)) w') : wpList P ops Q (o :: rest) a w := by
  by_cases hm : m = 0
  · subst hm
    obtain rfl : news = [] := by simpa using hl
    obtain ⟨g, cap, rfl, hg1, hg2⟩ := hown.form hn
    have hrun := run_append_zero (P := P) w base t o.type e i size ht hi _ n xs hown b c
    refine wpList_plain hgd fun K hK => ?_
    unfold Oper.wp
    have hw : w.grownBy w (Value.slice (some ⟨g, 0, none⟩) n cap).ownBlock := ⟨rfl, rfl, rfl, Nat.le_refl _, fun _ _ _ => rfl⟩
    rcases hown.2 with ⟨hh, _⟩ | ⟨g', cap', cur, hh, _, _, hnc, hcm, _⟩
    · cases hh
    · cases hh
      have hq := h g cap w (by simpa using hown) hw hg1 hg2 (by simpa using hnc) hcm
      simp [execOp, ho, resolve, invoke, builtin, hs, hx, hrun, Result.andThen]
      exact hK _ _ (by simpa using hq)
  · obtain ⟨ad, rfl, hcells⟩ := hnews (by omega)
    refine wpList_append_lies w hgd s x t ho base e i z size bytes ht hi hz hsize hby hzs hsz v n xs hs hown ad m c news hx hl hcells h1 (by omega) h63 hbytes hbase _ rfl (fun g cap w' h2 h3 h4 h5 => ?_)
    rcases h2.2 with ⟨hh, _⟩ | ⟨g', cap', cur, hh, hbg, _, hnc, hcm, _⟩
    · cases hh
    · cases hh
      exact h g cap w' h2 h3 hbg h5 hnc hcm
end

/-- A packet's bytes, its check being c. -/
def pkL (t C n c : Nat) (f : Nat → Nat) : List Nat := [105, t, C, 0, n / 256, n % 256, c / 256, c % 256] ++ (List.range n).map f
theorem pkL_len (t C n c : Nat) (f : Nat → Nat) : (pkL t C n c f).length = 8 + n := by simp [pkL]; omega
def bvals (l : List Nat) : List Value := l.map fun x : Nat => Value.int .u8 (x : Int)
theorem bvals_len (l : List Nat) : (bvals l).length = l.length := by simp [bvals]
theorem bvals_at (l : List Nat) (i : Nat) (h : i < l.length) : (bvals l)[i]? = some (.int .u8 ((l.getD i 0 : Nat) : Int)) := by
  simp [bvals, List.getD, h]
theorem bvals_one (l : List Nat) : ∀ u ∈ bvals l, u.oneCell' = true := by
  intro u hu
  obtain ⟨x, _, rfl⟩ := List.mem_map.1 hu
  rfl
/-- The check that is laid into a packet. -/
def pkC (t C n : Nat) (f : Nat → Nat) : Nat := 65535 - ckS (tot (fun i => (pkL t C n 0 f).getD i 0) (8 + n))
theorem pkL_lt {t C n c : Nat} {f : Nat → Nat} (ht : t < 256) (hC : C < 256) (hn : n < 65536) (hc : c < 65536) (hf : ∀ i, i < n → f i < 256) : ∀ i, (pkL t C n c f).getD i 0 < 256 := by
  intro i
  by_cases h : i < 8
  · have : i = 0 ∨ i = 1 ∨ i = 2 ∨ i = 3 ∨ i = 4 ∨ i = 5 ∨ i = 6 ∨ i = 7 := by omega
    rcases this with rfl | rfl | rfl | rfl | rfl | rfl | rfl | rfl <;> simp [pkL] <;> omega
  · by_cases h2 : i < 8 + n
    · have h3 : (pkL t C n c f).getD i 0 = f (i - 8) := by
        unfold pkL
        rw [List.getD_eq_getElem?_getD, List.getElem?_append_right (by simp; omega)]
        simp [show i - 8 < n by omega]
      rw [h3]
      exact hf _ (by omega)
    · rw [List.getD_eq_getElem?_getD, List.getElem?_eq_none (by rw [pkL_len]; omega)]; simp
end Pk

theorem info_u8 : (Try.prog.info? 5).map (fun i => (i.zero, i.size, i.bytes)) = some (some (.int .u8 0), 1, 1) := by kernel_rfl

set_option maxRecDepth 100000 in
set_option maxHeartbeats 4000000 in
theorem build_bad (num t C : Int) (a : Option Addr) (n cap : Nat) (w : World) (hn : n ≤ 9223372036854775807) (h : t < 1 ∨ 16 < t ∨ C < 0 ∨ 255 < C ∨ 1492 < n) :
    Calls Try.prog 22 #[.agg #[.int .i64 num, .int .i64 t, .int .i64 C, .slice a n cap]] w fun e w' => (∃ x, e = .returned (.tuple #[.slice none 0 0, .int .i64 x]) ∧ x ≠ 0) ∧ Below w.heap.size w w' := by
  have hB : ∀ o, Below w.heap.size w (w.alloc o) := fun o => (Below.refl _ _).alloc (Nat.le_refl _) _
  by_cases h1 : t < 1
  · go_enter Try.func22, Try.ntmps22
    go_wp2_with fail
    go_ret2
    exact ⟨⟨2, rfl, by omega⟩, hB _⟩
  by_cases h2 : 16 < t
  · go_enter Try.func22, Try.ntmps22
    go_wp2_with fail
    go_ret2
    exact ⟨⟨2, rfl, by omega⟩, hB _⟩
  by_cases h3 : C < 0
  · go_enter Try.func22, Try.ntmps22
    go_wp2_with fail
    go_ret2
    exact ⟨⟨2, rfl, by omega⟩, hB _⟩
  by_cases h4 : 255 < C
  · go_enter Try.func22, Try.ntmps22
    go_wp2_with fail
    go_ret2
    exact ⟨⟨2, rfl, by omega⟩, hB _⟩
  · have h5 : (1492 : Int) < (n : Int) := by omega
    go_enter Try.func22, Try.ntmps22
    go_wp2_with fail
    go_ret2
    exact ⟨⟨3, rfl, by omega⟩, hB _⟩

set_option maxRecDepth 100000 in
set_option maxHeartbeats 4000000 in
theorem build_ok (num : Int) (t C : Nat) (a : Option Addr) (n cap rb off : Nat) (f : Nat → Nat) (w : World) (h1 : 1 ≤ t) (h2 : t ≤ 16) (h3 : C ≤ 255) (h4 : n ≤ 1492) (hb : 0 < n → a = some ⟨rb, off, none⟩ ∧ BytesAt w rb off n f ∧ rb < w.heap.size) :
    Calls Try.prog 22 #[.agg #[.int .i64 num, .int .i64 (t : Nat), .int .i64 (C : Nat), .slice a n cap]] w fun e w' => ∃ g c, e = .returned (.tuple #[.slice (some ⟨g, 0, none⟩) (8 + n) c, .int .i64 0]) ∧ 8 + n ≤ c ∧ c ≤ 9223372036854775807 ∧ w'.ownsRow w.heap.size 5 1 (.slice (some ⟨g, 0, none⟩) (8 + n) c) (8 + n) (bvals (pkL t C n (pkC t C n f) f)) ∧ w.heap.size ≤ g ∧ g < w'.heap.size ∧ Below w.heap.size w w' := by
  obtain ⟨i0, hi0, hz0, hz1, hz2⟩ := info_parts info_u8
  have k1 : ¬ ((t : Int) < 1) := by omega
  have k2 : ¬ ((16 : Int) < (t : Int)) := by omega
  have k3 : ¬ ((C : Int) < 0) := by omega
  have k4 : ¬ ((255 : Int) < (C : Int)) := by omega
  have k5 : ¬ ((1492 : Int) < (n : Int)) := by omega
  have k6 : (n : Int) / 256 % 256 = (n : Int) / 256 := by omega
  have hown0 : ((w.alloc (.cells #[.int .i64 num, .int .i64 (t : Nat), .int .i64 (C : Nat), .slice a n cap] 38)).alloc (.cells #[.int .u8 105, .int .u8 (t : Nat), .int .u8 (C : Nat), .int .u8 0, .int .u8 ((n : Int) / 256), .int .u8 ((n : Int) % 256), .int .u8 0, .int .u8 0] 5)).ownsRow w.heap.size 5 1 (.slice (some ⟨w.heap.size + 1, 0, none⟩) 8 8) 8 (bvals [105, t, C, 0, n / 256, n % 256, 0, 0]) := by
    have := World.ownsRow_lit (base := w.heap.size) (e := 5) (size := 1) (w.alloc (.cells #[.int .i64 num, .int .i64 (t : Nat), .int .i64 (C : Nat), .slice a n cap] 38)) #[.int .u8 105, .int .u8 (t : Nat), .int .u8 (C : Nat), .int .u8 0, .int .u8 ((n : Int) / 256), .int .u8 ((n : Int) % 256), .int .u8 0, .int .u8 0] 8 (by simp) (by unfold maxLen; omega) (by rfl)
    rw [World.size_alloc] at this
    simpa [bvals] using this
  have hB0 : Below w.heap.size w ((w.alloc (.cells #[.int .i64 num, .int .i64 (t : Nat), .int .i64 (C : Nat), .slice a n cap] 38)).alloc (.cells #[.int .u8 105, .int .u8 (t : Nat), .int .u8 (C : Nat), .int .u8 0, .int .u8 ((n : Int) / 256), .int .u8 ((n : Int) % 256), .int .u8 0, .int .u8 0] 5)) := ((Below.refl _ _).alloc (Nat.le_refl _) _).alloc (by simp) _
  have hZ0 : w.heap.size ≤ ((w.alloc (.cells #[.int .i64 num, .int .i64 (t : Nat), .int .i64 (C : Nat), .slice a n cap] 38)).alloc (.cells #[.int .u8 105, .int .u8 (t : Nat), .int .u8 (C : Nat), .int .u8 0, .int .u8 ((n : Int) / 256), .int .u8 ((n : Int) % 256), .int .u8 0, .int .u8 0] 5)).heap.size := hB0.size
  have hcells : 0 < n → ∃ ad, a = some ad ∧ ∀ j u, (bvals ((List.range n).map f))[j]? = some u → ((w.alloc (.cells #[.int .i64 num, .int .i64 (t : Nat), .int .i64 (C : Nat), .slice a n cap] 38)).alloc (.cells #[.int .u8 105, .int .u8 (t : Nat), .int .u8 (C : Nat), .int .u8 0, .int .u8 ((n : Int) / 256), .int .u8 ((n : Int) % 256), .int .u8 0, .int .u8 0] 5)).cell? (ad.add j) = some u := fun hp => by
    obtain ⟨q1, q2, q3⟩ := hb hp
    refine ⟨_, q1, fun j u hu => ?_⟩
    have hj : j < n := by have := (List.getElem?_eq_some_iff.1 hu).1; simpa [bvals] using this
    simp [bvals, hj] at hu
    subst hu
    rw [Addr.add_lit]
    exact (hB0.cell (p := ⟨rb, off + j, none⟩) q3).trans (q2 j hj).1
  have hlen : (bvals ((List.range n).map f)).length = n * 1 := by simp [bvals]
  have hmx : 8 + n ≤ maxLen := by unfold maxLen; omega
  replace hb := Lib.hid hb
  go_enter Try.func22, Try.ntmps22
  go_wp2_with (at_builtin; refine wpList_append_any rfl _ _ 34 (by rfl) w.heap.size 5 i0 _ 1 1 Try.underlying34 hi0 hz0 hz1 hz2 (by rfl) (by omega) _ _ _ (by rfl) hown0 (by omega) a n cap _ (by rfl) hlen hcells (bvals_one _) hmx (by omega) hZ0 ?_; intro g cg w3 hown1 hgrow1 hg1 hg2 hg3 hg4)
  have hpk : bvals [105, t, C, 0, n / 256, n % 256, 0, 0] ++ bvals ((List.range n).map f) = bvals (pkL t C n 0 f) := by simp [bvals, pkL]
  rw [hpk] at hown1
  have hlt : ∀ i, (pkL t C n 0 f).getD i 0 < 256 := pkL_lt (by omega) (by omega) (by omega) (by omega) (fun i hi => ((hb.out (by omega)).2.1 i hi).2)
  have hby : BytesAt w3 g 0 (8 + n) (fun i => (pkL t C n 0 f).getD i 0) := fun i hi => by
    refine ⟨?_, hlt i⟩
    rw [Nat.zero_add, hown1.cellAt i (by omega)]
    exact bvals_at _ i (by rw [pkL_len]; omega)
  have hB3 : Below w.heap.size w w3 := hB0.grown hgrow1 hZ0 (fun k hk => by have := (hown0.lt k hk).1; omega)
  refine (check_c g 0 (8 + n) cg _ w3 hg3 (by unfold maxLen at hg4; omega) hby).mono ?_
  rintro e w4 ⟨rfl, m, rfl⟩
  rw [show 65535 - ckS (tot (fun i => (pkL t C n 0 f).getD i 0) (8 + n)) = pkC t C n f from rfl]
  obtain ⟨c, hc⟩ : ∃ c, pkC t C n f = c := ⟨_, rfl⟩
  have hcl : c ≤ 65535 := by rw [← hc]; unfold pkC; omega
  rw [hc]
  have hown4 := drewN_ownsRow hown1 m
  have hB4 := bDrew hB3 m
  have hg24 : g < (w3.drewN m).heap.size := by simpa using hg2
  generalize w3.drewN m = w4 at hown4 hB4 hg24 ⊢
  have m6 : w4.cell? ⟨g, 6, none⟩ = some (.int .u8 0) := (hown4.cellAt 6 (by omega)).trans ((bvals_at _ 6 (by rw [pkL_len]; omega)).trans (by simp [pkL]))
  have m7 : w4.cell? ⟨g, 7, none⟩ = some (.int .u8 0) := (hown4.cellAt 7 (by omega)).trans ((bvals_at _ 7 (by rw [pkL_len]; omega)).trans (by simp [pkL]))
  have n6 : w4.frozen? ⟨g, 6, none⟩ = false := hown4.frozenAt 6
  have n7 : w4.frozen? ⟨g, 7, none⟩ = false := hown4.frozenAt 7
  have k7 : (c : Int) / 256 % 256 = (c : Int) / 256 := by omega
  have k8 : (6 : Int) < ((8 + n : Nat) : Int) := by omega
  have k9 : (7 : Int) < ((8 + n : Nat) : Int) := by omega
  replace hown4 := Lib.hid hown4
  replace hown0 := Lib.hid hown0
  clear hown1 hby hlt hpk hcells
  go_wp2_with fail
  go_ret2
  have s1 := hown4.out.stored 6 (.int .u8 ((c : Int) / 256))
  have s2 := s1.1.stored 7 (.int .u8 ((c : Int) % 256))
  refine ⟨g, cg, rfl, hg3, by unfold maxLen at hg4; omega, ?_, hg1, by simpa using hg24, ((hB4.grown s1.2 (by have := hB4.size; omega) (fun k hk => by cases hk; exact hg1)).grown s2.2 (by have := hB4.size; simpa using this) (fun k hk => by cases hk; exact hg1))⟩
  have he : ((bvals (pkL t C n 0 f)).set 6 (.int .u8 ((c : Int) / 256))).set 7 (.int .u8 ((c : Int) % 256)) = bvals (pkL t C n c f) := by simp [bvals, pkL]
  rw [hc, ← he]
  exact s2.1
end Go.Proofs.Ytkefkophlhcbiaa
