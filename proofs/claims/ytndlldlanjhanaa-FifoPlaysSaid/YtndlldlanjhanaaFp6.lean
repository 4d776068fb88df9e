/- Queues of packets with what they hold: All as an iterator. -/
import Derived.Test.YtndlldlanjhanaaFp5
import Derived.Test.YtndlldlanjhanaaRx
namespace Go.Proofs.Ytndlldlanjhanaa
open Go.ChangeShapes Go.WideShapes Go.ChangeAt Go.RowKit Go.Shelf
set_option linter.unusedVariables false
set_option linter.unusedSimpArgs false
open BigFrame By Fq Bs Fp
attribute [local go_sem] Oper.semAt_some

namespace Fp
/-- What All gives, in the world in which it gives it. -/
def Given (l : List Pt) (pre : List Value) (x : Value) (U : World) : Prop := ∃ p, l[pre.length]? = some p ∧ ∃ a c, x = .agg #[.int .i64 p.x, .int .i64 p.t, .int .i64 p.C, .slice a p.d.length c] ∧ Byt U a p.d.length c p.d
def KpA (n0 cb : Nat) (W U : World) : Prop := Below n0 W U ∧ U.cell? ⟨cb, 0, none⟩ = W.cell? ⟨cb, 0, none⟩
theorem KpA.t {n0 cb : Nat} {A B C : World} (h : KpA n0 cb A B) (k : KpA n0 cb B C) : KpA n0 cb A C := ⟨h.1.trans k.1, k.2.trans h.2⟩
theorem KpA.b {n0 cb n1 : Nat} (h1 : n0 ≤ n1) (h2 : cb < n1) (W : World) (l : Nat) (o o' : Obj) (hl : n1 ≤ l) (h : W.heap[l]? = some o) (_ : o.isCells = false) (_ : o.isWalk = false) : KpA n0 cb W (W.putObj l o') := by
  have q : Below n1 W (W.putObj l o') := (Below.refl n1 W).grown (grownBy_putObj' W l o') (by have := (Array.getElem?_eq_some_iff.1 h).1; omega) (fun k e => by cases e; omega)
  exact ⟨q.mono h1, q.cell (p := ⟨cb, 0, none⟩) h2⟩
theorem grown_below {W U : World} (h : Below W.heap.size W U) : W.grownBy U none := ⟨h.os, h.tape, h.output, h.size, fun k hk _ => h.block k hk⟩
end Fp

theorem qall_c (v : Option Addr) (w : World) :
    Calls Try.prog 20 #[.pointer v] w fun e w' => e = .returned (.func (.func 27) #[] #[.pointer (some ⟨w.heap.size, 0, none⟩)]) ∧ w' = w.alloc (.cells #[.pointer v] 29) := by
  go_enter Try.func20, Try.ntmps20
  go_wp2
  go_ret
  exact ⟨rfl, rfl⟩

set_option maxRecDepth 100000 in
set_option maxHeartbeats 4000000 in
theorem qall_seq (n : Nat) (hn : 1 ≤ n) (w w0 : World) (qb rb room pos dr : Nat) (l : List Pt) (ns : List Nat) (h : PQ w qb rb room pos dr l ns) (hb0 : Below w.heap.size w w0) (cb : Nat) (hcb : cb < w0.heap.size) (hc : w0.cell? ⟨cb, 0, none⟩ = some (.pointer (some ⟨qb, 0, none⟩))) :
    Rx.SeqX n Try.prog 27 #[.pointer (some ⟨cb, 0, none⟩)] (fun x : Value => #[x]) (KpA w.heap.size cb) (Given l) (fun xs => xs.length = l.length) (fun pre => 1 ≤ pre.length ∧ pre.length ≤ l.length) l.length w0 := fun lo J Jx W hW hAb _ hY h0 => by
  have hc' := (hW.cell (p := ⟨cb, 0, none⟩) hcb).trans hc
  have hBW : Below w.heap.size w W := hb0.trans (hW.mono hb0.size)
  have hQ := h.q.below hBW
  have hl64 : l.length ≤ 64 := by have := h.q.n1; have := h.q.room2; omega
  obtain ⟨len, hlen⟩ : ∃ len, RowKit.Hid (l.length = len) := ⟨_, Lib.hid rfl⟩
  have hln := Lib.hid (qlen_c qb rb room pos l.length (tot l) dr W hQ)
  rw [hlen.out] at hln hl64
  replace h := Lib.hid h
  replace hAb := Lib.hid hAb
  replace hY := Lib.hid hY
  clear hQ hc
  refine callsIn_of_wp Try.func27 rfl trivial ?_ rfl
  simp only [Try.ntmps27, List.size_toArray, List.length_cons, List.length_nil, Nat.reduceAdd, Nat.reduceSub, Array.replicate_succ, Array.replicate_zero, List.push_toArray, List.append_toArray, List.nil_append, List.cons_append]
  gi_wp2_with (refine ⟨trivial, ?_⟩; gi_at_call 8; refine (callsIn_wide.2 hln.out).mono ?_; rintro e w' ⟨rfl, rfl⟩)
  gi_loopw [3, 6] (fun _ i wr => ∃ (k : Nat) (pre : List Value), k ≤ len ∧ i = .int .i64 (k : Nat) ∧ pre.length = k ∧ J pre wr ∧ Below w.heap.size w wr ∧ wr.cell? ⟨cb, 0, none⟩ = some (.pointer (some ⟨qb, 0, none⟩))) (fun _ i _ => len - (intOf i).toNat)
  case atStart => exact ⟨0, [], Nat.zero_le _, rfl, rfl, h0, hBW, hc'⟩
  case round =>
    obtain ⟨k, pre, hk, rfl, hpre, hJ, hB, hcx⟩ := hrel
    by_cases hlt : k < len
    · have hltz : (k : Int) < (len : Int) := by omega
      obtain ⟨p, hp⟩ : ∃ p, l[k]? = some p := ⟨_, List.getElem?_eq_getElem (by have := hlen.out; omega)⟩
      have hQ := h.out.bel hB
      obtain ⟨pk, hr, hpk⟩ := hQ.r
      obtain ⟨h0', h1', h2', a, c, h3', hy, _⟩ := hpk k p hp
      have hm := h.out.s p (List.mem_of_getElem? hp)
      have hlk := Lib.hid (rlook_c qb rb room pos l.length (tot l) dr k p.x p.t p.C a p.d.length c pk wr hQ.q hr (by omega) h0' h1' h2' h3')
      have hcp := Lib.hid (fun u (hu : Below wr.heap.size wr u) => copiedF_c p.x p.t p.C a p.d.length c p.d u (hy.bel hu) (by omega))
      replace hp := Lib.hid hp
      replace hJ := Lib.hid hJ
      have hpx := hpre
      replace hpre := Lib.hid hpre
      clear hQ hr hpk h0' h1' h2' h3' hy
      gi_wp2_with (refine ⟨trivial, ?_⟩; gi_at_call 26; refine (callsIn_wide.2 hlk.out).mono ?_; rintro e u1 ⟨rfl, hb1⟩)
      refine ⟨trivial, ?_⟩
      refine (callsIn_wide.2 (hcp.out _ hb1)).mono ?_
      rintro e u2 ⟨a2, c2, rfl, ⟨hy2, hf2⟩, hb2⟩
      have hb12 := bNext hb1 hb2 (Nat.le_refl _)
      have hB2 := hB.trans (hb12.mono hB.size)
      have hcx2 := cellB hb12 hcx
      obtain ⟨fn, tmps, assign, body, hyy, hR⟩ := hY.out pre (.agg #[.int .i64 p.x, .int .i64 p.t, .int .i64 p.C, .slice a2 p.d.length c2]) u2 (hAb.out _ _ _ none hJ.out (grown_below hb12) (fun r h => by cases h)) ⟨p, by rw [hpre.out]; exact hp.out, a2, c2, rfl, hy2⟩ (by have := hlen.out; omega)
      clear hb1 hb2 hb12 hlk hcp hy2 hf2 hcx hB
      gi_wp2
      refine hR.mono ?_
      rintro e W3 (⟨rfl, hJ3, hk3⟩ | ⟨rfl, hJx3⟩)
      · have hcx3 := hk3.2.trans hcx2
        have hB3 := hB2.trans hk3.1
        gi_wp2
        go_roundw
        case rel => exact ⟨k + 1, pre ++ [_], by omega, by simp, by simp [hpre.out], hJ3, hB3, hcx3⟩
        case measure => simp [intOf]; omega
      · gi_wp2
        refine bodyPost_ret (results_none rfl _ _ _) rfl ?_
        exact ⟨⟨_, rfl⟩, .inr ⟨_, by have := hlen.out; simp [hpre.out]; omega, hJx3⟩⟩
    · obtain rfl : k = len := by omega
      gi_wp2
      go_end0
      exact ⟨⟨_, rfl⟩, .inl ⟨_, by rw [hpre, hlen.out], hJ⟩⟩
end Go.Proofs.Ytndlldlanjhanaa
