/- The air: messages stay in order: two rows, the air's and the law's own. -/
import Derived.Test.YtnokojobiaddmaaA11
import Derived.Maps.AppendAt
namespace Go.Proofs.Ytnokojobiaddmaa
open Go.ChangeShapes Go.WideShapes Go.ChangeAt Go.RowKit Go.Maps
set_option linter.unusedVariables false
set_option linter.unusedSimpArgs false
open BigFrame Bs Ar

namespace Ar
def mi (v : Int) : FM := ⟨0, 1, 2, 0, v, 0, 0, false, 0, 0, 0⟩
def iV (l : List Int) : List Value := l.map (fun v => .int .i64 v)
theorem iV_len (l : List Int) : (iV l).length = l.length := by simp [iV]
theorem iV_at (l : List Int) (i : Nat) (h : i < l.length) : (iV l)[i]? = some (.int .i64 (l.getD i 0)) := by simp [iV, List.getD, h]
theorem iV_one (l : List Int) : ∀ u ∈ iV l, u.oneCell' = true := by
  intro u hu
  simp [iV] at hu
  obtain ⟨x, _, rfl⟩ := hu
  rfl
theorem mi_at (l : List Int) (k : Nat) (h : k < l.length) : (l.map mi).getD k fm0 = mi (l.getD k 0) := by simp [List.getD, h]
theorem mi_erase (l : List Int) (k : Nat) : (l.map mi).eraseIdx k = (l.eraseIdx k).map mi := by
  rw [List.eraseIdx_eq_take_drop_succ, List.eraseIdx_eq_take_drop_succ]
  simp
/-- An air of messages of one number each, and the law's own row of the numbers. -/
structure Two (m : Nat) (w : World) (g base : Nat) (lv li : Value) (l : List Int) (bm : Nat) : Prop where
  air : AirAt m w g base lv (l.map mi) bm 0 (fun _ _ => false)
  ints : w.ownsRow base 3 1 li l.length (iV l)
  dis : ∀ b, li.ownBlock = some b → lv.ownBlock ≠ some b
section
variable {m : Nat} {w w' : World} {g base bm : Nat} {lv lv2 li : Value} {l l2 : List Int}
theorem Two.bel (h : Two m w g base lv li l bm) (k : Below w.heap.size w w') : Two m w' g base lv li l bm := ⟨h.air.bel k, own_bel h.ints k, h.dis⟩
theorem own_kpt {e : TypeId} {size n : Nat} {v : Value} {xs : List Value} (h : w.ownsRow base e size v n xs) (hg : g < base) (hb : bm < base) (k : Kpt m g bm lv lv2 w w') (hd : ∀ b, v.ownBlock = some b → lv.ownBlock ≠ some b) : w'.ownsRow base e size v n xs := by
  refine ⟨h.1, ?_⟩
  rcases h.2 with hh | ⟨q, cap, cur, h1, h2, h3, h4⟩
  · exact .inl hh
  · exact .inr ⟨q, cap, cur, h1, h2, (k.blk q (Array.getElem?_eq_some_iff.1 h3).1 (by omega) (by omega) (hd q (by rw [h1]; rfl))).trans h3, h4⟩
theorem dis_kpt {n : Nat} {xs : List Value} {e : TypeId} {size : Nat} (h : w.ownsRow base e size li n xs) (k : Kpt m g bm lv lv2 w w') (hd : ∀ b, li.ownBlock = some b → lv.ownBlock ≠ some b) : ∀ b, li.ownBlock = some b → lv2.ownBlock ≠ some b :=
  fun b hb => k.row b (h.lt b hb).2 (hd b hb)
/-- The air while another row is grown. -/
theorem AirAt.beside {L : List FM} {n : Nat} {C : Int → Int → Bool} {r : Option Nat} (h : AirAt m w g base lv L bm n C) (hg : w.grownBy w' r) (hr : ∀ b, r = some b → base ≤ b ∧ lv.ownBlock ≠ some b) : AirAt m w' g base lv L bm n C ∧ Below m w w' := by
  have h1 : some g ≠ r := fun e => by have := (hr g e.symm).1; have := h.h1; omega
  have h2 : some bm ≠ r := fun e => by have := (hr bm e.symm).1; have := h.h2; omega
  refine ⟨⟨(hg.block g h.lt h1).trans h.hg, h.own.kept hg ?_, ?_, h.h1, h.h2, h.h3, h.h4, h.h5, Nat.le_trans h.h6 hg.size⟩, (Below.refl m w).grown hg h.below (fun k hk => by have := (hr k hk).1; have := h.h4; have := h.h1; omega)⟩
  · cases hv : lv.ownBlock with
    | none => exact .inl rfl
    | some b =>
      refine .inr fun e => ?_
      exact (hr b e.symm).2 hv
  · obtain ⟨D, d1, d2⟩ := h.mp
    exact ⟨D, d1.kept hg h2, d2⟩
theorem shape {e : TypeId} {size n : Nat} {v : Value} {xs : List Value} (h : w.ownsRow base e size v n xs) : (v = .slice none 0 0 ∧ n = 0) ∨ ∃ q cap, v = .slice (some ⟨q, 0, none⟩) n cap ∧ n ≤ cap ∧ cap ≤ maxLen := by
  rcases h.2 with hh | ⟨q, cap, cur, h1, h2, h3, h4, h5, h6⟩
  · exact .inl hh
  · exact .inr ⟨q, cap, h1, h4, h5⟩
end
theorem ord_ex (a : Int) : ∃ n : Nat, n ≤ 59 ∧ (wrap64 (a.tmod 60 + 60)).tmod 60 = (n : Int) := by
  have h1 : a.tmod 60 < 60 := Int.tmod_lt_of_pos a (by omega)
  have h2 : -60 < a.tmod 60 := Int.lt_tmod_of_pos a (by omega)
  have e : wrap64 (a.tmod 60 + 60) = a.tmod 60 + 60 := by unfold wrap64; omega
  have h3 : (a.tmod 60 + 60).tmod 60 < 60 := Int.tmod_lt_of_pos _ (by omega)
  have h4 : 0 ≤ (a.tmod 60 + 60).tmod 60 := Int.tmod_nonneg _ (by omega)
  rw [e]
  exact ⟨((a.tmod 60 + 60).tmod 60).toNat, by omega, by omega⟩
theorem at_ex (a : Int) (n : Nat) (hn : 0 < n) (h60 : n ≤ 60) : ∃ k : Nat, k < n ∧ (wrap64 (a.tmod (n : Int) + (n : Int))).tmod (n : Int) = (k : Int) := by
  have h1 : a.tmod (n : Int) < (n : Int) := Int.tmod_lt_of_pos a (by omega)
  have h2 : -(n : Int) < a.tmod (n : Int) := Int.lt_tmod_of_pos a (by omega)
  have e : wrap64 (a.tmod (n : Int) + (n : Int)) = a.tmod (n : Int) + (n : Int) := by unfold wrap64; omega
  have h3 : (a.tmod (n : Int) + (n : Int)).tmod (n : Int) < (n : Int) := Int.tmod_lt_of_pos _ (by omega)
  have h4 : 0 ≤ (a.tmod (n : Int) + (n : Int)).tmod (n : Int) := Int.tmod_nonneg _ (by omega)
  rw [e]
  exact ⟨((a.tmod (n : Int) + (n : Int)).tmod (n : Int)).toNat, by omega, by omega⟩
end Ar
theorem info_int : (Try.prog.info? 3).map (fun i => (i.zero, i.size, i.bytes)) = some (some (.int .i64 0), 1, 8) := by kernel_rfl
end Go.Proofs.Ytnokojobiaddmaa
