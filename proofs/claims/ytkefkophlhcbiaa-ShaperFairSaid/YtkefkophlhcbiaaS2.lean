/- The shaper: tokens, what waits, the budget; no shaper. -/
import Derived.Test.YtkefkophlhcbiaaS1
namespace Go.Proofs.Ytkefkophlhcbiaa
open Go.ChangeShapes Go.WideShapes Go.ChangeAt Go.RowKit
set_option linter.unusedVariables false
set_option linter.unusedSimpArgs false
open BigFrame Sh

set_option maxRecDepth 100000 in
theorem purse_ok (w : World) (s k : Nat) (h1 : 1 ≤ k) (h2 : k ≤ 16) :
    Calls Try.prog 29 #[.pointer (some ⟨s, 0, none⟩), .int .i64 (k : Nat)] w fun e w' => e = .returned (.pointer (some ⟨s, 3 + k, none⟩)) ∧ w' = w := by
  have z1 : ¬ (k : Int) < 1 := by omega
  have z2 : ¬ (16 : Int) < (k : Int) := by omega
  have z3 : (k : Int) < 17 := by omega
  go_enter Try.func29, Try.ntmps29
  go_wp2_with fail
  go_ret
  exact ⟨rfl, rfl⟩
set_option maxRecDepth 100000 in
theorem purse_no (w : World) (a : Option Addr) (t : Int) (h : t < 1 ∨ 16 < t) :
    Calls Try.prog 29 #[.pointer a, .int .i64 t] w fun e w' => e = .returned (.pointer none) ∧ w' = w := by
  by_cases z1 : t < 1
  · clear h
    go_enter Try.func29, Try.ntmps29
    go_wp2_with fail
    go_ret
    exact ⟨rfl, rfl⟩
  · have z2 : 16 < t := by omega
    clear h
    go_enter Try.func29, Try.ntmps29
    go_wp2_with fail
    go_ret
    exact ⟨rfl, rfl⟩
set_option maxRecDepth 100000 in
theorem psize_c (w : World) (x t C : Int) (a : Option Addr) (n c : Nat) (hn : n ≤ 1000000) :
    Calls Try.prog 33 #[.agg #[.int .i64 x, .int .i64 t, .int .i64 C, .slice a n c]] w fun e w' => e = .returned (.int .i64 (8 + (n : Int))) ∧ Below w.heap.size w w' := by
  have hB0 := (Below.refl w.heap.size w).alloc (Nat.le_refl _) (.cells #[.int .i64 x, .int .i64 t, .int .i64 C, .slice a n c] 38)
  have z1 : (8 : Int) + (n : Int) ≤ 9223372036854775807 := by omega
  go_enter Try.func33, Try.ntmps33
  go_wp2_with fail
  go_ret
  exact ⟨rfl, hB0⟩

namespace Sh
def okT (t : Int) : Prop := 1 ≤ t ∧ t ≤ 16
instance (t : Int) : Decidable (okT t) := inferInstanceAs (Decidable (_ ∧ _))
def fillOk (t b : Int) : Prop := okT t ∧ 0 ≤ b ∧ b ≤ 1000000
instance (t b : Int) : Decidable (fillOk t b) := inferInstanceAs (Decidable (_ ∧ _))
def fillG (t b : Int) (G : Gs) : Gs := if fillOk t b then { G with tok := up G.tok t.toNat (min (G.tok t.toNat + b) 1099511627776) } else G
def FillP (I : Ids) (L : List Nat) (t b : Int) (G : Gs) (w : World) (e : Ending) (w' : World) : Prop := e = .returned (.int .i64 (if fillOk t b then 0 else 2)) ∧ SHP I (fillG t b G) L w' ∧ By.KF I.ns w w'
def dropG (t : Int) (G : Gs) : Gs := if okT t then { G with tok := up G.tok t.toNat 0 } else G
def DropP (I : Ids) (L : List Nat) (t : Int) (G : Gs) (w : World) (e : Ending) (w' : World) : Prop := e = .returned (.tuple #[.int .i64 (if okT t then G.tok t.toNat else 0), .int .i64 (if okT t then 0 else 2)]) ∧ SHP I (dropG t G) L w' ∧ By.KF I.ns w w'
theorem kf_s (I : Ids) {w : World} (o : Nat) (v : Value) : By.KF I.ns w (w.setCell ⟨I.s, o, none⟩ v) := (By.KF.refl _ _).set (.inl (Ids.mem_ns.2 (.inl rfl))) v
end Sh

set_option maxRecDepth 100000 in
theorem fill_c {I : Ids} {G : Gs} {L : List Nat} {w : World} (t b : Int) (h : SHP I G L w) :
    Calls Try.prog 12 #[.pointer (some ⟨I.s, 0, none⟩), .int .i64 t, .int .i64 b] w (FillP I L t b G w) := by
  by_cases hok : fillOk t b
  · obtain ⟨ht, hb0, hb1⟩ := hok
    obtain ⟨k, rfl⟩ : ∃ k : Nat, t = (k : Int) := ⟨t.toNat, by have := ht.1; omega⟩
    have hk1 : 1 ≤ k := by have := ht.1; omega
    have hk2 : k ≤ 16 := by have := ht.2; omega
    have hp := purse_ok w I.s k hk1 hk2
    have hok : fillOk (k : Int) b := ⟨ht, hb0, hb1⟩
    obtain ⟨tb, ct, pos, kd, hS⟩ := h
    have c1 := hS.b.c (3 + k) _ (shC_tok I G k (by omega))
    have f1 := hS.b.f (3 + k)
    have htk := hS.tk k (by omega)
    have hn := hS.acc
    have hF : FillP I L (k : Int) b G w (.returned (.int .i64 0)) (w.setCell ⟨I.s, 3 + k, none⟩ (.int .i64 (min (G.tok k + b) 1099511627776))) := by
      refine ⟨by rw [if_pos hok], ⟨tb, ct, pos, kd, ?_⟩, kf_s I _ _⟩
      unfold fillG
      rw [if_pos hok, Int.toNat_natCast]
      refine hS.store (by omega) (shC_setTok I G k (by omega) _) rfl rfl rfl rfl (fun i hi => ?_) hS.lk ⟨Nat.le_refl _, hn.2.2.2⟩ hn.2.1
      simp only [up]
      split
      · omega
      · exact hS.tk i hi
    replace hF := Lib.hid hF
    replace hS := Lib.hid hS
    obtain ⟨g, hg⟩ : ∃ g, RowKit.Hid (G.tok k = g) := ⟨_, Lib.hid rfl⟩
    rw [hg.out] at c1 hF htk
    obtain ⟨ht0, ht1⟩ := htk
    have z3 : g + b ≤ 9223372036854775807 := by omega
    have z4 : -9223372036854775808 ≤ g + b := by omega
    have z5 : ¬ b < 0 := by omega
    have z6 : ¬ 1000000 < b := by omega
    clear hn ht hok
    go_enter Try.func12, Try.ntmps12
    go_wp2_with fail
    refine hp.mono ?_
    rintro e u ⟨rfl, rfl⟩
    go_wp2_with fail
    exact bodyPost_ret (v := .int .i64 0) (by simp [results, Try.results12, go_sem]) rfl hF.out
  · have hF : FillP I L t b G w (.returned (.int .i64 2)) w := by
      refine ⟨by rw [if_neg hok], ?_, By.KF.refl _ _⟩
      unfold fillG
      rw [if_neg hok]
      exact h
    replace hF := Lib.hid hF
    clear h
    by_cases ht : okT t
    · obtain ⟨k, rfl⟩ : ∃ k : Nat, t = (k : Int) := ⟨t.toNat, by have := ht.1; omega⟩
      have hk1 : 1 ≤ k := by have := ht.1; omega
      have hk2 : k ≤ 16 := by have := ht.2; omega
      have hp := purse_ok w I.s k hk1 hk2
      by_cases hb : b < 0
      · clear hok ht
        go_enter Try.func12, Try.ntmps12
        go_wp2_with fail
        refine hp.mono ?_
        rintro e u ⟨rfl, rfl⟩
        go_wp2_with fail
        exact bodyPost_ret (v := .int .i64 2) (by simp [results, Try.results12, go_sem]) rfl hF.out
      · have hb2 : 1000000 < b := Classical.byContradiction fun q => hok ⟨ht, by omega, by omega⟩
        clear hok ht
        go_enter Try.func12, Try.ntmps12
        go_wp2_with fail
        refine hp.mono ?_
        rintro e u ⟨rfl, rfl⟩
        go_wp2_with fail
        exact bodyPost_ret (v := .int .i64 2) (by simp [results, Try.results12, go_sem]) rfl hF.out
    · have hp := purse_no w (some ⟨I.s, 0, none⟩) t (by unfold okT at ht; omega)
      clear hok ht
      go_enter Try.func12, Try.ntmps12
      go_wp2_with fail
      refine hp.mono ?_
      rintro e u ⟨rfl, rfl⟩
      go_wp2_with fail
      exact bodyPost_ret (v := .int .i64 2) (by simp [results, Try.results12, go_sem]) rfl hF.out
set_option maxRecDepth 100000 in
theorem fill_nil (w : World) (t b : Int) :
    Calls Try.prog 12 #[.pointer none, .int .i64 t, .int .i64 b] w fun e w' => e = .returned (.int .i64 1) ∧ w' = w := by
  go_enter Try.func12, Try.ntmps12
  go_wp2_with fail
  go_ret
  exact ⟨rfl, rfl⟩
set_option maxRecDepth 100000 in
theorem drop_c {I : Ids} {G : Gs} {L : List Nat} {w : World} (t : Int) (h : SHP I G L w) :
    Calls Try.prog 18 #[.pointer (some ⟨I.s, 0, none⟩), .int .i64 t] w (DropP I L t G w) := by
  by_cases ht : okT t
  · obtain ⟨k, rfl⟩ : ∃ k : Nat, t = (k : Int) := ⟨t.toNat, by have := ht.1; omega⟩
    have hk1 : 1 ≤ k := by have := ht.1; omega
    have hk2 : k ≤ 16 := by have := ht.2; omega
    have hp := purse_ok w I.s k hk1 hk2
    obtain ⟨tb, ct, pos, kd, hS⟩ := h
    have c1 := hS.b.c (3 + k) _ (shC_tok I G k (by omega))
    have f1 := hS.b.f (3 + k)
    have hn := hS.acc
    have hF : DropP I L (k : Int) G w (.returned (.tuple #[.int .i64 (G.tok k), .int .i64 0])) (w.setCell ⟨I.s, 3 + k, none⟩ (.int .i64 0)) := by
      refine ⟨by rw [if_pos ht, if_pos ht, Int.toNat_natCast], ⟨tb, ct, pos, kd, ?_⟩, kf_s I _ _⟩
      unfold dropG
      rw [if_pos ht, Int.toNat_natCast]
      refine hS.store (by omega) (shC_setTok I G k (by omega) _) rfl rfl rfl rfl (fun i hi => ?_) hS.lk ⟨Nat.le_refl _, hn.2.2.2⟩ hn.2.1
      simp only [up]
      split
      · omega
      · exact hS.tk i hi
    replace hF := Lib.hid hF
    replace hS := Lib.hid hS
    obtain ⟨g, hg⟩ : ∃ g, RowKit.Hid (G.tok k = g) := ⟨_, Lib.hid rfl⟩
    rw [hg.out] at c1 hF
    clear hn ht
    go_enter Try.func18, Try.ntmps18
    go_wp2_with fail
    refine hp.mono ?_
    rintro e u ⟨rfl, rfl⟩
    go_wp2_with fail
    exact bodyPost_ret (v := .tuple #[.int .i64 g, .int .i64 0]) (by simp [results, Try.results18, go_sem]) rfl hF.out
  · have hF : DropP I L t G w (.returned (.tuple #[.int .i64 0, .int .i64 2])) w := by
      refine ⟨by rw [if_neg ht, if_neg ht], ?_, By.KF.refl _ _⟩
      unfold dropG
      rw [if_neg ht]
      exact h
    replace hF := Lib.hid hF
    have hp := purse_no w (some ⟨I.s, 0, none⟩) t (by unfold okT at ht; omega)
    clear h ht
    go_enter Try.func18, Try.ntmps18
    go_wp2_with fail
    refine hp.mono ?_
    rintro e u ⟨rfl, rfl⟩
    go_wp2_with fail
    exact bodyPost_ret (v := .tuple #[.int .i64 0, .int .i64 2]) (by simp [results, Try.results18, go_sem]) rfl hF.out
set_option maxRecDepth 100000 in
theorem drop_nil (w : World) (t : Int) :
    Calls Try.prog 18 #[.pointer none, .int .i64 t] w fun e w' => e = .returned (.tuple #[.int .i64 0, .int .i64 1]) ∧ w' = w := by
  go_enter Try.func18, Try.ntmps18
  go_wp2_with fail
  go_ret2
  exact ⟨rfl, rfl⟩
set_option maxRecDepth 100000 in
theorem tokens_c {I : Ids} {G : Gs} {L : List Nat} {w : World} (t : Int) (h : SHP I G L w) :
    Calls Try.prog 14 #[.pointer (some ⟨I.s, 0, none⟩), .int .i64 t] w fun e w' => e = .returned (.int .i64 (if okT t then G.tok t.toNat else 0)) ∧ w' = w := by
  by_cases ht : okT t
  · rw [if_pos ht]
    obtain ⟨k, rfl⟩ : ∃ k : Nat, t = (k : Int) := ⟨t.toNat, by have := ht.1; omega⟩
    have hk1 : 1 ≤ k := by have := ht.1; omega
    have hk2 : k ≤ 16 := by have := ht.2; omega
    have hp := purse_ok w I.s k hk1 hk2
    obtain ⟨tb, ct, pos, kd, hS⟩ := h
    have c1 := hS.b.c (3 + k) _ (shC_tok I G k (by omega))
    rw [Int.toNat_natCast]
    clear hS ht
    go_enter Try.func14, Try.ntmps14
    go_wp2_with (go_at_call 29; refine hp.mono ?_; rintro e u ⟨rfl, rfl⟩)
    go_ret
    exact ⟨rfl, rfl⟩
  · rw [if_neg ht]
    have hp := purse_no w (some ⟨I.s, 0, none⟩) t (by unfold okT at ht; omega)
    clear h ht
    go_enter Try.func14, Try.ntmps14
    go_wp2_with (go_at_call 29; refine hp.mono ?_; rintro e u ⟨rfl, rfl⟩)
    go_ret
    exact ⟨rfl, rfl⟩
set_option maxRecDepth 100000 in
theorem tokens_nil (w : World) (t : Int) :
    Calls Try.prog 14 #[.pointer none, .int .i64 t] w fun e w' => e = .returned (.int .i64 0) ∧ w' = w := by
  go_enter Try.func14, Try.ntmps14
  go_wp2_with fail
  go_ret
  exact ⟨rfl, rfl⟩
set_option maxRecDepth 100000 in
theorem budget_c {I : Ids} {G : Gs} {L : List Nat} {w : World} (h : SHP I G L w) :
    Calls Try.prog 21 #[.pointer (some ⟨I.s, 0, none⟩)] w fun e w' => e = .returned (.int .i64 G.link) ∧ w' = w := by
  obtain ⟨tb, ct, pos, kd, hS⟩ := h
  have c1 := hS.b.c 20 _ rfl
  clear hS
  go_enter Try.func21, Try.ntmps21
  go_wp2_with fail
  go_ret
  exact ⟨rfl, rfl⟩
set_option maxRecDepth 100000 in
theorem budget_nil (w : World) :
    Calls Try.prog 21 #[.pointer none] w fun e w' => e = .returned (.int .i64 0) ∧ w' = w := by
  go_enter Try.func21, Try.ntmps21
  go_wp2_with fail
  go_ret
  exact ⟨rfl, rfl⟩
set_option maxRecDepth 100000 in
theorem waiting_c {I : Ids} {G : Gs} {L : List Nat} {w : World} (t : Int) (h : SHP I G L w) :
    Calls Try.prog 19 #[.pointer (some ⟨I.s, 0, none⟩), .int .i64 t] w fun e w' => e = .returned (.int .i64 (if 0 ≤ t ∧ t < I.N then ((G.Q t.toNat).length : Nat) else 0)) ∧ w' = w := by
  obtain ⟨tb, ct, pos, kd, hS⟩ := h
  have c1 := hS.b.c 1 _ rfl
  have hN1 := hS.n1.1
  have hN8 := hS.n1.2
  have z2 : (I.N : Int) ≤ 8 := by omega
  by_cases ht : 0 ≤ t ∧ t < I.N
  · rw [if_pos ht]
    obtain ⟨k, rfl⟩ : ∃ k : Nat, t = (k : Int) := ⟨t.toNat, by omega⟩
    have hk : k < I.N := by omega
    have c2 := hS.qr k hk
    have hl := qlen_c _ _ _ _ _ _ _ w (hS.pq k hk).q
    obtain ⟨z1, z3⟩ := ht
    rw [Int.toNat_natCast]
    clear hS
    go_enter Try.func19, Try.ntmps19
    go_wp2_with fail
    refine hl.mono ?_
    rintro e u ⟨rfl, rfl⟩
    go_wp2_with fail
    go_ret
    exact ⟨rfl, rfl⟩
  · rw [if_neg ht]
    clear hS
    by_cases h0 : t < 0
    · clear ht
      go_enter Try.func19, Try.ntmps19
      go_wp2_with fail
      go_ret
      exact ⟨rfl, rfl⟩
    · have h1 : (I.N : Int) ≤ t := by omega
      clear ht
      go_enter Try.func19, Try.ntmps19
      go_wp2_with fail
      go_ret
      exact ⟨rfl, rfl⟩
set_option maxRecDepth 100000 in
theorem waiting_nil (w : World) (t : Int) :
    Calls Try.prog 19 #[.pointer none, .int .i64 t] w fun e w' => e = .returned (.int .i64 0) ∧ w' = w := by
  go_enter Try.func19, Try.ntmps19
  go_wp2_with fail
  go_ret
  exact ⟨rfl, rfl⟩
namespace Sh
/-- What a tenant wants. -/
def wantN (I : Ids) (G : Gs) (t : Int) : Nat → Nat
  | 0 => 0
  | n + 1 => wantN I G t n + (if I.T n = t then Fp.tot (G.Q n) else 0)
end Sh
set_option maxRecDepth 100000 in
set_option maxHeartbeats 4000000 in
theorem wants_c {I : Ids} {G : Gs} {L : List Nat} {w : World} (t : Int) (h : SHP I G L w) :
    Calls Try.prog 13 #[.pointer (some ⟨I.s, 0, none⟩), .int .i64 t] w fun e w' => e = .returned (.int .i64 (wantN I G t I.N : Nat)) ∧ Below w.heap.size w w' := by
  obtain ⟨tb, ct, pos, kd, hS⟩ := h
  have hN1 := hS.n1.1
  have hN8 := hS.n1.2
  have hbd : ∀ i, i < I.N → Fp.tot (G.Q i) ≤ 1000000 := fun i hi => (hS.pq i hi).q.by1
  obtain ⟨N, hN⟩ : ∃ N, RowKit.Hid (I.N = N) := ⟨_, Lib.hid rfl⟩
  have c0 := hS.b.c 0 _ rfl
  replace hS := Lib.hid hS
  rw [hN.out] at hN1 hN8 hbd c0 ⊢
  have z1 : (1 : Int) ≤ (N : Int) := by omega
  have z2 : (N : Int) ≤ 8 := by omega
  replace hbd := Lib.hid hbd
  go_enter Try.func13, Try.ntmps13
  go_wp2_with fail
  go_loopw [5, 6, 7, 15] (fun s5 _ _ s15 wr => ∃ k : Nat, k ≤ N ∧ s15 = .int .i64 (k : Nat) ∧ (∃ x : Nat, s5 = .int .i64 (x : Nat) ∧ RowKit.Hid (x = wantN I G t k) ∧ x ≤ k * 1000000) ∧ RowKit.Hid (Below w.heap.size w wr)) (fun _ _ _ s15 _ => N - (intOf s15).toNat)
  case atStart => exact ⟨0, by omega, rfl, ⟨0, rfl, Lib.hid rfl, by omega⟩, Lib.hid (Below.refl _ _)⟩
  case round =>
    obtain ⟨k, hk, rfl, ⟨x, rfl, hx, hxb⟩, hB⟩ := hrel
    obtain ⟨W, rfl⟩ : ∃ W : World, W = wr := ⟨_, rfl⟩
    have iz : (k : Int) ≤ (N : Int) := by omega
    by_cases hlt : k < N
    · have iz1 : (k : Int) < (N : Int) := by omega
      have hxn := Lib.hid (show x ≤ (k + 1) * 1000000 from Nat.le_trans hxb (Nat.mul_le_mul_right _ (Nat.le_succ k)))
      have hW := hS.out.bel hB.out
      have hkN : k < I.N := by rw [hN.out]; exact hlt
      obtain ⟨y0, y1, y2⟩ := hW.fl k hkN
      have bx := Bs.blk_new W [.int .i64 (I.T k), .int .i64 (I.W k), .int .i64 (I.R k)] 33
      have hB1 := (Below.refl W.heap.size W).alloc (Nat.le_refl _) (.cells #[.int .i64 (I.T k), .int .i64 (I.W k), .int .i64 (I.R k)] 33)
      have hBn := Lib.hid (hB.out.trans (hB1.mono hB.out.size))
      have hW1 := hW.bel hB1
      have e0 := hW1.b.c 1 _ rfl
      have e1 := hW1.qr k hkN
      have hby := Lib.hid (qbytes_c _ _ _ _ _ _ _ _ (hW1.pq k hkN).q)
      have hyb := hbd.out k hlt
      have b0 := bx.c 0 _ rfl
      rw [hN.out] at e0
      replace hW1 := Lib.hid hW1
      replace hW := Lib.hid hW
      clear hB1
      obtain ⟨tt, htt⟩ : ∃ y, RowKit.Hid (I.T k = y) := ⟨_, Lib.hid rfl⟩
      rw [htt.out] at y0 b0 hBn e0 e1 hby bx
      obtain ⟨bb, hbb⟩ : ∃ y, RowKit.Hid (Fp.tot (G.Q k) = y) := ⟨_, Lib.hid rfl⟩
      rw [hbb.out] at hby hyb
      have z5 : (x : Int) + (bb : Int) ≤ 9223372036854775807 := by omega
      have z6 : -9223372036854775808 ≤ (x : Int) + (bb : Int) := by omega
      clear bx
      by_cases hteq : tt = t
      · subst hteq
        go_wp2_with fail
        refine hby.out.mono ?_
        rintro e u ⟨rfl, rfl⟩
        go_wp2_with fail
        go_roundw
        case rel => exact ⟨k + 1, by omega, by go_num, ⟨x + bb, by go_num, Lib.hid (by unfold wantN; rw [if_pos htt.out, hbb.out, hx.out]), by omega⟩, hBn⟩
        case measure => simp [intOf]; omega
      · have hne : (tt == t) = false := by simpa using hteq
        go_wp2_with fail
        go_roundw
        case rel => exact ⟨k + 1, by omega, by go_num, ⟨x, rfl, Lib.hid (by unfold wantN; rw [if_neg (by rw [htt.out]; exact hteq)]; have := hx.out; omega), hxn.out⟩, hBn⟩
        case measure => simp [intOf]; omega
    · obtain rfl : k = N := by omega
      go_wp2_with fail
      go_ret
      exact ⟨by rw [← hx.out]; rfl, hB.out⟩
set_option maxRecDepth 100000 in
theorem wants_nil (w : World) (t : Int) :
    Calls Try.prog 13 #[.pointer none, .int .i64 t] w fun e w' => e = .returned (.int .i64 0) ∧ w' = w := by
  go_enter Try.func13, Try.ntmps13
  go_wp2_with fail
  go_ret
  exact ⟨rfl, rfl⟩
end Go.Proofs.Ytkefkophlhcbiaa
