/- The contract of packet.Parse. -/
import Derived.Test.YtndlldlanjhanaaPk5
import Derived.Deep.RegionLaw
namespace Go.Proofs.Ytndlldlanjhanaa
open Go.ChangeShapes Go.WideShapes Go.ChangeAt Go.RowKit
set_option linter.unusedVariables false
set_option linter.unusedSimpArgs false
open Pk BigFrame

namespace Pk
/-- 'append(nil, x...)' as one step of a region that draws. -/
theorem step_append_nil {P : Program} {w : World} {ops : Array Oper} {o : Oper} {a : Act} {K : Act → World → Prop} {Q : Exit → Act → World → Prop} {E : Prop} (hgd : o.guard = none) (s x : Operand) (t : TypeId)
    (ho : o.op = .call { callee := .builtin .append, args := #[s, x], argTypes := #[t, t] })
    (base : Nat) (e : TypeId) (i : TypeInfo) (z : Value) (size bytes : Nat) (ht : P.underlying t = some (.slice e)) (hi : P.info? e = some i) (hz : i.zero = some z)
    (hsize : i.size = size) (hby : i.bytes = bytes) (hzs : z.cells.size = size) (hsz : 0 < size) (hs : a.eval s = .slice none 0 0)
    (b : Option Addr) (m c : Nat) (news : List Value) (hx : a.eval x = .slice b m c) (hl : news.length = m * size) (hnews : 0 < m → ∃ ad, b = some ad ∧ ∀ j u, news[j]? = some u → w.cell? (ad.add j) = some u) (h1 : ∀ u ∈ news, u.oneCell' = true)
    (h63 : 0 + m ≤ maxLen) (hbytes : (0 + m) * bytes ≤ 140737488355328) (hbase : base ≤ w.heap.size)
    (h : ∀ a1 k1 w', w'.ownsRow base e size (.slice a1 m k1) m news → (m = 0 → a1 = none ∧ k1 = 0) → Below base w w' → K (a.put o.dst (.slice a1 m k1)) w') :
    if Region.wanted o (yielded ops a.tmps) = true then Oper.wp P o a w K Q else E := by
  by_cases hm : m = 0
  · subst hm
    obtain rfl : news = [] := by simpa using hl
    have hw : Region.wanted o (yielded ops a.tmps) = true := by simp [Region.wanted, hgd]
    rw [if_pos hw]
    have hrun := run_append_zero (P := P) w base t o.type e i size ht hi (.slice none 0 0) 0 [] (World.ownsRow_nil _ _ _ _) b c
    have hq := h none 0 w (World.ownsRow_nil _ _ _ _) (fun _ => ⟨rfl, rfl⟩) (Below.refl _ _)
    unfold Oper.wp
    simp [execOp, ho, resolve, invoke, builtin, hs, hx, hrun, Result.andThen]
    exact hq
  · obtain ⟨ad, rfl, hcells⟩ := hnews (by omega)
    refine step_append_lies w hgd s x t ho base e i z size bytes ht hi hz hsize hby hzs hsz _ 0 [] hs (World.ownsRow_nil _ _ _ _) ad m c news hx hl hcells h1 (by omega) h63 hbytes hbase _ rfl (fun g cap w' h2 h3 h4 h5 => ?_)
    rw [Nat.zero_add] at h2 ⊢
    exact h _ _ w' (by simpa using h2) (fun hh => absurd hh hm) ((Below.refl _ _).grown h3 hbase (fun k hk => by cases hk))
/-- The bytes behind the head. -/
def tailV (F : Nat → Nat) (m : Nat) : List Value := bvals ((List.range m).map fun i => F (8 + i))
theorem tailV_len (F : Nat → Nat) (m : Nat) : (tailV F m).length = m * 1 := by simp [tailV, bvals]
theorem and_ne (a b : Nat) (ha : a < 256) (hb : b < 256) (h : ¬ (a = 255 ∧ b = 255)) : (bits .and .u8 (a : Int) (b : Int) == 255) = false := by
  rw [u8_and_nat a b ha hb]
  have h1 : a &&& b ≤ a := Nat.and_le_left
  have h2 : a &&& b ≤ b := Nat.and_le_right
  have : ¬ (a &&& b = 255) := by omega
  simp
  omega
theorem or_i64 (a b : Nat) (ha : a < 256) (hb : b < 256) : bits .or .i64 ((a : Int) * 256) (b : Int) = (a : Int) * 256 + (b : Int) := by
  have h1 := (bits_nat .i64 62 (by decide) (fun n h0 h1 => by rw [IntKind.wrap_i64]; omega) (a * 256) b (by omega) (by omega)).2
  rw [or_words a b hb] at h1
  have e1 : ((a * 256 : Nat) : Int) = (a : Int) * 256 := by omega
  have e2 : ((a * 256 + b : Nat) : Int) = (a : Int) * 256 + (b : Int) := by rw [Int.natCast_add, e1]
  rw [e1, e2] at h1
  exact h1
theorem set4 {W : World} {b : Nat} {x0 x1 x2 x3 : Value} (v0 v1 v2 v3 : Value) (h0 : W.cell? ⟨b, 0, none⟩ = some x0) (h1 : W.cell? ⟨b, 1, none⟩ = some x1) (h2 : W.cell? ⟨b, 2, none⟩ = some x2) (h3 : W.cell? ⟨b, 3, none⟩ = some x3) :
    ((((W.setCell ⟨b, 0, none⟩ v0).setCell ⟨b, 1, none⟩ v1).setCell ⟨b, 2, none⟩ v2).setCell ⟨b, 3, none⟩ v3).cell? ⟨b, 0, none⟩ = some v0 ∧
    ((((W.setCell ⟨b, 0, none⟩ v0).setCell ⟨b, 1, none⟩ v1).setCell ⟨b, 2, none⟩ v2).setCell ⟨b, 3, none⟩ v3).cell? ⟨b, 1, none⟩ = some v1 ∧
    ((((W.setCell ⟨b, 0, none⟩ v0).setCell ⟨b, 1, none⟩ v1).setCell ⟨b, 2, none⟩ v2).setCell ⟨b, 3, none⟩ v3).cell? ⟨b, 2, none⟩ = some v2 ∧
    ((((W.setCell ⟨b, 0, none⟩ v0).setCell ⟨b, 1, none⟩ v1).setCell ⟨b, 2, none⟩ v2).setCell ⟨b, 3, none⟩ v3).cell? ⟨b, 3, none⟩ = some v3 := by
  have o : ∀ (U : World) (i j : Nat) (u : Value), i ≠ j → (U.setCell ⟨b, j, none⟩ u).cell? ⟨b, i, none⟩ = U.cell? ⟨b, i, none⟩ := fun U i j u h => World.cell?_setCell_other _ _ _ _ (by simp <;> omega)
  refine ⟨?_, ?_, ?_, ?_⟩
  · rw [o _ _ _ _ (by omega), o _ _ _ _ (by omega), o _ _ _ _ (by omega)]; exact World.cell?_setCell_same _ _ _ h0
  · rw [o _ _ _ _ (by omega), o _ _ _ _ (by omega)]; exact World.cell?_setCell_same _ _ _ ((o _ _ _ _ (by omega)).trans h1)
  · rw [o _ _ _ _ (by omega)]; exact World.cell?_setCell_same _ _ _ ((o _ _ _ _ (by omega)).trans ((o _ _ _ _ (by omega)).trans h2))
  · exact World.cell?_setCell_same _ _ _ ((o _ _ _ _ (by omega)).trans ((o _ _ _ _ (by omega)).trans ((o _ _ _ _ (by omega)).trans h3)))
theorem below4 {B : Nat} {A W : World} {b : Nat} (h : Below B A W) (hb : B ≤ b) (v0 v1 v2 v3 : Value) : Below B A ((((W.setCell ⟨b, 0, none⟩ v0).setCell ⟨b, 1, none⟩ v1).setCell ⟨b, 2, none⟩ v2).setCell ⟨b, 3, none⟩ v3) :=
  (((h.setCell (p := ⟨b, 0, none⟩) hb _).setCell (p := ⟨b, 1, none⟩) hb _).setCell (p := ⟨b, 2, none⟩) hb _).setCell (p := ⟨b, 3, none⟩) hb _
end Pk