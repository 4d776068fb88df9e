/- The contract of the reference's Flow. -/
import Derived.Test.YtkefkophlhcbiaaPk3
import Derived.Deep.AppendLies
import Derived.OwnWalk
import Derived.Below
namespace Go.Proofs.Ytkefkophlhcbiaa
open Go.ChangeShapes Go.WideShapes Go.ChangeAt Go.RowKit
set_option linter.unusedVariables false
set_option linter.unusedSimpArgs false
open Pk BigFrame

namespace Pk
theorem bNext {a b c : World} {B : Nat} (h : Below B a b) (k : Below b.heap.size b c) (hB : B ≤ a.heap.size) : Below B a c := h.trans (k.mono (Nat.le_trans hB h.size))
theorem bDrew {B : Nat} {a b : World} (h : Below B a b) : ∀ n, Below B a (b.drewN n)
  | 0 => h
  | n + 1 => by simpa using (bDrew h n).drew
def ivals (l : List Nat) : List Value := l.map fun x : Nat => Value.int .i64 (x : Int)
theorem ivals_len (l : List Nat) : (ivals l).length = l.length := by simp [ivals]
theorem ivals_snoc (l : List Nat) (x : Nat) : ivals (l ++ [x]) = ivals l ++ [.int .i64 (x : Int)] := by simp [ivals]
theorem ivals_at (l : List Nat) (i : Nat) (h : i < l.length) : (ivals l)[i]? = some (.int .i64 ((l.getD i 0 : Nat) : Int)) := by
  simp [ivals, List.getD, h]
theorem drewN_ownsRow {w : World} {base : Nat} {e : TypeId} {size : Nat} {v : Value} {n : Nat} {xs : List Value} (h : w.ownsRow base e size v n xs) (k : Nat) : (w.drewN k).ownsRow base e size v n xs := by
  induction k with
  | zero => exact h
  | succ k ih => simpa using ih.drew
theorem grow_keep2 {wr w1 : World} {o : Obj} {v : Value} {base size n : Nat} {e : TypeId} {xs : List Value} (hown : wr.ownsRow base e size v n xs) (hg : (wr.alloc o).grownBy w1 v.ownBlock) (b : Nat) (hb : b < base) (hl : b < wr.heap.size) :
    (∀ off, w1.cell? ⟨b, off, none⟩ = wr.cell? ⟨b, off, none⟩) ∧ (∀ off, w1.frozen? ⟨b, off, none⟩ = wr.frozen? ⟨b, off, none⟩) := by
  have hne : some b ≠ v.ownBlock := fun e => by have := (hown.lt b e.symm).1; omega
  have h : w1.heap[b]? = wr.heap[b]? := (hg.block b (by show b < (wr.heap.push o).size; simp; omega) hne).trans (Below.heap_alloc wr o b hl)
  exact ⟨fun off => World.cell?_of_block h, fun off => World.frozen?_of_block h⟩
end Pk

theorem info_int23 : (Try.prog.info? 3).map (fun i => (i.zero, i.size, i.bytes)) = some (some (.int .i64 0), 1, 8) := by kernel_rfl

set_option maxRecDepth 100000 in
set_option maxHeartbeats 4000000 in
theorem rflow_c (T : Nat → Int) (num t C : Int) (ld : Value) (a : Option Addr) (N cap rb off : Nat) (w : World) (hN : N ≤ 1000000) (h0 : 0 < N → rb < w.heap.size) (ha : 0 < N → a = some ⟨rb, off, none⟩) (hr : ∀ i, i < N → w.cell? ⟨rb, off + i * 3, none⟩ = some (.int .i64 (T i))) (hC : C ≤ 9223372036854775807) :
    Calls Try.prog 37 #[.slice a N cap, .agg #[.int .i64 num, .int .i64 t, .int .i64 C, ld]] w fun e w' => e = .returned (.tuple #[.int .i64 (flowI T N t C), .int .i64 (flowE T N t C)]) ∧ Below w.heap.size w w' := by
  obtain ⟨i0, hi0, hz0, hz1, hz2⟩ := info_parts info_int23
  go_enter Try.func37, Try.ntmps37
  go_wp2_with fail
  go_loopw [6, 7] (fun l i wr => ∃ (k : Nat) (lv : Value), k ≤ N ∧ lv = l ∧ i = .int .i64 (k : Nat) ∧ wr.ownsRow (w.heap.size + 1) 3 1 lv (ofs T t k).length (ivals (ofs T t k)) ∧ ((ofs T t k).length = 0 → lv = .slice none 0 0) ∧ wr.cell? ⟨w.heap.size, 1, none⟩ = some (.int .i64 t) ∧ wr.cell? ⟨w.heap.size, 2, none⟩ = some (.int .i64 C) ∧ Below w.heap.size w wr ∧ w.heap.size + 1 ≤ wr.heap.size) (fun _ i _ => N - (intOf i).toNat)
  case atStart => exact ⟨0, .slice none 0 0, by omega, rfl, rfl, World.ownsRow_nil _ _ _ _, fun _ => rfl, by go_simp, by go_simp, (Below.refl _ _).alloc (Nat.le_refl _) _, by simp⟩
  case round =>
    obtain ⟨k, lv, hk, rfl, rfl, hown, hnil, p1, p2, hB, hsz⟩ := hrel
    have hlen := ofs_len T t k
    by_cases hlt : k < N
    · have hlt' : (k : Int) < (N : Int) := by omega
      have haa := ha (by omega)
      subst haa
      have x0 := (hB.cell (p := ⟨rb, off + k * 3, none⟩) (h0 (by omega))).trans (hr k hlt)
      by_cases g : T k = t
      · have hm := Lib.hid (ofs_in g)
        rw [g] at x0
        replace hr := Lib.hid hr
        clear g
        go_wp2_with fail
        go_big_quiet (fail)
        replace hown := drewN_ownsRow hown nq
        replace p1 : (wr.drewN nq).cell? ⟨w.heap.size, 1, none⟩ = some (.int .i64 t) := by simpa using p1
        replace p2 : (wr.drewN nq).cell? ⟨w.heap.size, 2, none⟩ = some (.int .i64 C) := by simpa using p2
        replace hB := bDrew hB nq
        replace hsz : w.heap.size + 1 ≤ (wr.drewN nq).heap.size := by simpa using hsz
        generalize wr.drewN nq = U at hown p1 p2 hB hsz ⊢
        clear x0
        have b0 : lv.ownBlock ≠ some w.heap.size := fun e => by have := (hown.lt _ e).1; omega
        go_wp2_with (at_builtin; refine wpList_append_lies _ rfl _ _ 66 (by rfl) (w.heap.size + 1) 3 i0 _ 1 8 Try.underlying66 hi0 hz0 hz1 hz2 (by rfl) (by omega) _ _ _ (by rfl) (hown.alloc _) ⟨U.heap.size, 0, none⟩ 1 1 [.int .i64 (k : Int)] (by rfl) (by rfl) (World.news_of_block (cs := #[.int .i64 (k : Int)]) (t := 3) (fr := (0, 0)) (heap_alloc_new U _)) (by intro u hu; simp at hu; subst hu; rfl) (by omega) (by unfold maxLen; omega) (by omega) (by simp; omega) (U.heap.size + 1) (by simp) ?_; intro g1 cap1 w3 hown1 hgrow1 hat1 hlt1)
        have K0 := grow_keep2 hown hgrow1 w.heap.size (by omega) (by omega)
        have hb3 : Below w.heap.size w w3 := (hB.alloc (by omega) _).grown hgrow1 (by simp; omega) (fun q hq => by have := (hown.lt q hq).1; omega)
        have s3 : U.heap.size ≤ w3.heap.size := by have := hgrow1.size; simp at this; omega
        go_roundw
        case rel => exact ⟨k + 1, _, by omega, rfl, by simp, by rw [hm.out, List.length_append, ivals_snoc]; exact hown1, fun h => by rw [hm.out] at h; simp at h, (K0.1 1).trans p1, (K0.1 2).trans p2, hb3, by omega⟩
        case measure => simp [intOf]; omega
      · have hm := Lib.hid (ofs_out g)
        have hg : (T k == t) = false := by simpa using g
        replace hr := Lib.hid hr
        clear g
        go_wp2_with fail
        go_big_quiet (fail)
        replace hown := drewN_ownsRow hown nq
        replace p1 : (wr.drewN nq).cell? ⟨w.heap.size, 1, none⟩ = some (.int .i64 t) := by simpa using p1
        replace p2 : (wr.drewN nq).cell? ⟨w.heap.size, 2, none⟩ = some (.int .i64 C) := by simpa using p2
        replace hB := bDrew hB nq
        replace hsz : w.heap.size + 1 ≤ (wr.drewN nq).heap.size := by simpa using hsz
        generalize wr.drewN nq = U at hown p1 p2 hB hsz ⊢
        clear x0
        go_wp2
        go_roundw
        case rel => exact ⟨k + 1, _, by omega, rfl, by simp, by rw [hm.out]; exact hown, by rw [hm.out]; exact hnil, p1, p2, hB, hsz⟩
        case measure => simp [intOf]; omega
    · obtain rfl : k = N := by omega
      obtain ⟨c, hc⟩ : ∃ c, (ofs T t k).length = c := ⟨_, rfl⟩
      rw [hc] at hown hnil
      by_cases h0 : c = 0
      · subst h0
        have hl := hnil rfl
        subst hl
        have hI : flowI T k t C = 0 := by unfold flowI; rw [if_pos hc]
        have hE : flowE T k t C = 161 := by unfold flowE; rw [if_pos hc]
        replace hI := Lib.hid hI
        replace hE := Lib.hid hE
        go_wp2_with fail
        go_ret2
        exact ⟨by rw [hI.out, hE.out]; rfl, hB⟩
      · obtain ⟨g, cg, rfl, hg1, hg2⟩ := hown.form (by omega)
        have hc0 : ¬ (c : Int) = 0 := by omega
        by_cases hC0 : C < 0
        · have hI : flowI T k t C = 0 := by unfold flowI; rw [if_neg (by omega), if_pos hC0]
          have hE : flowE T k t C = 2 := by unfold flowE; rw [if_neg (by omega), if_pos hC0]
          replace hI := Lib.hid hI
          replace hE := Lib.hid hE
          go_wp2_with fail
          go_ret2
          exact ⟨by rw [hI.out, hE.out]; rfl, hB⟩
        · have hI : flowI T k t C = (((ofs T t k).getD (C.toNat % c) 0 : Nat) : Int) := by unfold flowI; rw [hc, if_neg (by omega), if_neg hC0]
          have hE : flowE T k t C = 0 := by unfold flowE; rw [if_neg (by omega), if_neg hC0]
          obtain ⟨q, hq⟩ : ∃ q, C.toNat % c = q := ⟨_, rfl⟩
          have hqc : q < c := by rw [← hq]; exact Nat.mod_lt _ (by omega)
          have hqi : C % (c : Int) = (q : Nat) := by rw [← hq]; have : C = (C.toNat : Int) := by omega
                                                     rw [Int.natCast_emod, ← this]
          rw [hq] at hI
          obtain ⟨X, hX⟩ : ∃ X, (ofs T t k).getD q 0 = X := ⟨_, rfl⟩
          rw [hX] at hI
          replace hI := Lib.hid hI
          replace hE := Lib.hid hE
          have hcell := (hown.cellAt q (by omega)).trans (ivals_at _ q (by omega))
          rw [hX] at hcell
          have hqc' : (q : Int) < (c : Int) := by omega
          clear hq hX
          go_wp2_with fail
          go_ret2
          exact ⟨by rw [hI.out, hE.out]; rfl, hB⟩
end Go.Proofs.Ytkefkophlhcbiaa
