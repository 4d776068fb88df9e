/- The contract of packet.Build. -/
import Derived.Test.YtjdkpoggcpckcaaPk4
namespace Go.Proofs.Ytjdkpoggcpckcaa
open Go.ChangeShapes Go.WideShapes Go.ChangeAt Go.RowKit
set_option linter.unusedVariables false
set_option linter.unusedSimpArgs false
open Pk BigFrame

namespace Pk
section
variable {P : Program}
theorem run_append_zero (w : World) (base : Nat) (t ty e : TypeId) (i : TypeInfo) (size : Nat) (ht : P.underlying t = some (.slice e)) (hi : P.info? e = some i)
    (v : Value) (n : Nat) (xs : List Value) (hown : w.ownsRow base e size v n xs) (b : Option Addr) (d : Nat) :
    (Builtin.append_ #[t, t] ty #[v, .slice b 0 d]).run P w = .ok v w := by
  have hf := run_firstCells_some (P := P) w i.size 0
  cases b with
  | none =>
    rcases hown.2 with ⟨rfl, rfl⟩ | ⟨g, cap, cur, rfl, _, _, hnc, _⟩
    · simp [Builtin.append_, run_underlying ht, sizeOf, typeInfo, hi, Builtin.lenOf, Builtin.firstCells]
    · simp [Builtin.append_, run_underlying ht, sizeOf, typeInfo, hi, Builtin.lenOf, Builtin.firstCells, hnc, storeCells]
  | some ad =>
    have hc := hf ad 0 d [] (by simp) (by intro j u h; simp at h)
    rcases hown.2 with ⟨rfl, rfl⟩ | ⟨g, cap, cur, rfl, _, _, hnc, _⟩
    · simp [Builtin.append_, run_underlying ht, sizeOf, typeInfo, hi, Builtin.lenOf, hc]
    · simp [Builtin.append_, run_underlying ht, sizeOf, typeInfo, hi, Builtin.lenOf, hnc, storeCells, hc]

theorem wpList_append_any {w : World} {ops : Array Oper} {rest : List Oper} {o : Oper} {a : Act} {Q : Exit → Act → World → Prop} (hgd : o.guard = none) (s x : Operand) (t : TypeId)
    (ho : o.op = .call { callee := .builtin .append, args := #[s, x], argTypes := #[t, t] })
    (base : Nat) (e : TypeId) (i : TypeInfo) (z : Value) (size bytes : Nat) (ht : P.underlying t = some (.slice e)) (hi : P.info? e = some i) (hz : i.zero = some z)
    (hsize : i.size = size) (hby : i.bytes = bytes) (hzs : z.cells.size = size) (hsz : 0 < size)
    (v : Value) (n : Nat) (xs : List Value) (hs : a.eval s = v) (hown : w.ownsRow base e size v n xs) (hn : 0 < n)
    (b : Option Addr) (m c : Nat) (news : List Value) (hx : a.eval x = .slice b m c) (hl : news.length = m * size) (hnews : 0 < m → ∃ ad, b = some ad ∧ ∀ j u, news[j]? = some u → w.cell? (ad.add j) = some u) (h1 : ∀ u ∈ news, u.oneCell' = true)
    (h63 : n + m ≤ maxLen) (hbytes : (n + m) * bytes ≤ 140737488355328) (hbase : base ≤ w.heap.size)
    (h : ∀ g cap w', w'.ownsRow base e size (.slice (some ⟨g, 0, none⟩) (n + m) cap) (n + m) (xs ++ news) → w.grownBy w' v.ownBlock → base ≤ g → g < w'.heap.size → n + m ≤ cap → cap ≤ maxLen → wpList P ops Q rest (a.put o.dst (.slice (some ⟨g, 0, none⟩) (n + m) cap)) w') : wpList P ops Q (o :: rest) a w := by
  by_cases hm : m = 0
  · subst hm
    obtain rfl : news = [] := by simpa using hl
    obtain ⟨g, cap, rfl, hg1, hg2⟩ := hown.form hn
    have hrun := run_append_zero (P := P) w base t o.type e i size ht hi _ n xs hown b c
    refine wpList_plain hgd fun K hK => ?_
    unfold Oper.wp
    have hw : w.grownBy w (Value.slice (some ⟨g, 0, none⟩) n cap).ownBlock := ⟨rfl, rfl, rfl, Nat.le_refl _, fun _ _ _ => rfl⟩
    rcases hown.2 with ⟨hh, _⟩ | ⟨g', cap', cur, hh, _, _, hnc, hcm, _⟩
    · cases hh
    · cases hh
      have hq := h g cap w (by simpa using hown) hw hg1 hg2 (by simpa using hnc) hcm
      simp [execOp, ho, resolve, invoke, builtin, hs, hx, hrun, Result.andThen]
      exact hK _ _ (by simpa using hq)
  · obtain ⟨ad, rfl, hcells⟩ := hnews (by omega)
    refine wpList_append_lies w hgd s x t ho base e i z size bytes ht hi hz hsize hby hzs hsz v n xs hs hown ad m c news hx hl hcells h1 (by omega) h63 hbytes hbase _ rfl (fun g cap w' h2 h3 h4 h5 => ?_)
    rcases h2.2 with ⟨hh, _⟩ | ⟨g', cap', cur, hh, hbg, _, hnc, hcm, _⟩
    · cases hh
    · cases hh
      exact h g cap w' h2 h3 hbg h5 hnc hcm
end

/-- A packet's bytes, its check being c. -/
def pkL (t C n c : Nat) (f : Nat → Nat) : List Nat := [105, t, C, 0, n / 256, n % 256, c / 256, c % 256] ++ (List.range n).map f
theorem pkL_len (t C n c : Nat) (f : Nat → Nat) : (pkL t C n c f).length = 8 + n := by simp [pkL]; omega
def bvals (l : List Nat) : List Value := l.map fun x : Nat => Value.int .u8 (x : Int)
theorem bvals_len (l : List Nat) : (bvals l).length = l.length := by simp [bvals]
theorem bvals_at (l : List Nat) (i : Nat) (h : i < l.length) : (bvals l)[i]? = some (.int .u8 ((l.getD i 0 : Nat) : Int)) := by
  simp [bvals, List.getD, h]
theorem bvals_one (l : List Nat) : ∀ u ∈ bvals l, u.oneCell' = true := by
  intro u hu
  obtain ⟨x, _, rfl⟩ := List.mem_map.1 hu
  rfl
/-- The check that is laid into a packet. -/
def pkC (t C n : Nat) (f : Nat → Nat) : Nat := 65535 - ckS (tot (fun i => (pkL t C n 0 f).getD i 0) (8 + n))
theorem pkL_lt {t C n c : Nat} {f : Nat → Nat} (ht : t < 256) (hC : C < 256) (hn : n < 65536) (hc : c < 65536) (hf : ∀ i, i < n → f i < 256) : ∀ i, (pkL t C n c f).getD i 0 < 256 := by
  intro i
  by_cases h : i < 8
  · have : i = 0 ∨ i = 1 ∨ i = 2 ∨ i = 3 ∨ i = 4 ∨ i = 5 ∨ i = 6 ∨ i = 7 := by omega
    rcases this with rfl | rfl | rfl | rfl | rfl | rfl | rfl | rfl <;> simp [pkL] <;> omega
  · by_cases h2 : i < 8 + n
    · have h3 : (pkL t C n c f).getD i 0 = f (i - 8) := by
        unfold pkL
        rw [List.getD_eq_getElem?_getD, List.getElem?_append_right (by simp; omega)]
        simp [show i - 8 < n by omega]
      rw [h3]
      exact hf _ (by omega)
    · rw [List.getD_eq_getElem?_getD, List.getElem?_eq_none (by rw [pkL_len]; omega)]; simp
end Pk

theorem info_u8 : (Try.prog.info? 5).map (fun i => (i.zero, i.size, i.bytes)) = some (some (.int .u8 0), 1, 1) := by kernel_rfl