/- The walk of the statement StampNever of layer 20 (stamp). -/
import Derived.Test.YtnbgilgnkedojaaStampNever
namespace Go.Proofs.Ytnbgilgnkedojaa
open Go.ChangeShapes Go.WideShapes Go.ChangeAt Go.RowKit
set_option linter.unusedVariables false
set_option linter.unusedSimpArgs false
attribute [local go_sem] max_fold min_fold
open Ck Nv

set_option maxRecDepth 100000 in
set_option maxHeartbeats 600000 in
theorem never_good (w0 : World) (r : Int) (b off len cap : Nat) (f : Nat → Int) (b' off' len' cap' : Nat) (f' : Nat → Int) (hb : b < w0.heap.size) (hb' : b' < w0.heap.size) (hp : 0 < len) (hl : len ≤ 100) (hll : len ≤ len') (hlc : len ≤ cap) (hlc' : len' ≤ cap') (hm' : cap' ≤ 9223372036854775807) (r0 : 0 ≤ r) (r1 : r ≤ 200)
    (hf : ∀ i, i < len → w0.cell? ⟨b, off + i, none⟩ = some (.int .i64 (f i)) ∧ (Lit.int .i64 (f i)).wf = true)
    (hf' : ∀ i, i < len' → w0.cell? ⟨b', off' + i, none⟩ = some (.int .i64 (f' i)) ∧ (Lit.int .i64 (f' i)).wf = true) :
    Calls Try.prog 17 #[.int .i64 r, .slice (some ⟨b, off, none⟩) len cap, .slice (some ⟨b', off', none⟩) len' cap'] w0 fun e w' => e = .returned (.bool true) ∧ Below w0.heap.size w0 w' := by
  have HF := Lib.hid hf
  have HF' := Lib.hid hf'
  clear hf hf'
  have hl1 : ((len : Int) ≤ 100) := by omega
  have hl2 : ((len : Int) ≤ (len' : Int)) := by omega
  have hl3 : ((len' : Int) ≤ 9223372036854775807) := by omega
  obtain ⟨i0, hi, hz0, hz1, hz2⟩ := info_parts info3
  go_enter Try.func17, Try.ntmps17
  go_wp2_with fail
  refine (new_ok r _ r0 r1).mono ?_
  rintro e wa ⟨rfl, hC0, hBa⟩
  go_wp2_with fail
  refine (now_c _ _ _ _ _ hC0).mono ?_
  rintro e w' ⟨rfl, rfl⟩
  go_wp2_with fail
  refine (snew_ok r 0 _ r0 r1 (by omega) (by omega)).mono ?_
  rintro e wb ⟨rfl, hS0, hBb⟩
  have hC1 := hC0.below hBb
  have hBB := belowNext hBa hBb (Nat.le_refl _)
  have hcb := hC0.lt
  have hsb := hS0.lt
  have hsa := hBa.size
  clear hC0
  go_wp2
  go_loopw [11, 12, 13, 14, 15] (fun u v s l i wr => ∃ (k : Nat) (xs ts : List Int) (x t m : Int), k ≤ len ∧ i = .int .i64 k ∧ s = .int .i64 x ∧ l = .int .i64 x ∧
      wr.ownsRow wb.heap.size 3 1 u k (xs.map (Value.int .i64)) ∧ wr.ownsRow wb.heap.size 3 1 v k (ts.map (Value.int .i64)) ∧ (∀ g, u.ownBlock = some g → v.ownBlock = some g → False) ∧
      Ck.At wr w0.heap.size t m r ∧ Sp.At wr wa.heap.size r 0 x ∧ Ck.Inv t m r ∧ x = sure m r ∧ t ≤ 100000 * k ∧ NGood xs ts k x t ∧ Below w0.heap.size w0 wr ∧ wb.heap.size ≤ wr.heap.size) (fun _ _ _ _ i _ => len - (intOf i).toNat)
  case atStart => exact ⟨0, [], [], 0, 0, 0, by omega, rfl, rfl, rfl, World.ownsRow_nil _ _ _ _, World.ownsRow_nil _ _ _ _, fun g h => by simp [Value.ownBlock] at h, hC1, hS0, inv_zero r0 r1, sure_zero r, by omega, NGood.nil, hBB, Nat.le_refl _⟩
  case round =>
    obtain ⟨k, xs, ts, x, t, m, hk, rfl, rfl, rfl, hu, hv, hne, hC, hS, hI, hx, ht, hG, hB, hsz⟩ := hrel
    replace hx := Lib.hid hx
    by_cases hlt : k < len
    · obtain ⟨c0, g0⟩ := HF.out k hlt
      obtain ⟨c1, g1⟩ := HF'.out k (by omega)
      have hxb := bounds_i64 g0
      replace c0 := (hB.cell (p := ⟨b, _, none⟩) hb).trans c0
      replace c1 := (hB.cell (p := ⟨b', _, none⟩) hb').trans c1
      clear g0 g1 hxb
      obtain ⟨d1, d2⟩ := tmod_b (f k)
      obtain ⟨d3, d4⟩ := tmod2_b (f k)
      have d5 : 0 ≤ (f k).tmod 100000 % 100000 := by omega
      have d6 : (f k).tmod 100000 % 100000 < 100000 := by omega
      go_wp2_with fail
      refine (step_q w0.heap.size t m r _ _ wr hC hI d5 d6 (by omega)).mono ?_
      rintro e w1 ⟨rfl, t', m', hC1', hJ, tt1, tt2, mm1, mm2, ss1, ss2, ss3, ho1⟩
      rw [← hx.out] at ss1 ss2
      obtain ⟨x', hx'⟩ : ∃ x', RowKit.Hid (x' = sure m' r) := ⟨_, Lib.hid rfl⟩
      have hS1 := hS.only ho1 (by omega)
      have hu1 := own_only hu ho1 (by omega)
      have hv1 := own_only hv ho1 (by omega)
      have hb1 := ho1.below (B := w0.heap.size) (Nat.le_refl _) (by omega)
      have hz1' := ho1.size
      clear hC hS hu hv ho1 c0 c1 d1 d2 d3 d4 d5 d6 hI
      go_wp2_with fail
      refine (now_c _ _ _ _ _ hC1').mono ?_
      rintro e w' ⟨rfl, rfl⟩
      go_wp2_with fail
      refine (at_q wa.heap.size r x m' w1 hS1 mm1 mm2 ss1).mono ?_
      rw [← hx'.out]
      rw [← hx'.out] at ss1 ss2 ss3
      rintro e w2 ⟨rfl, hS2, ho2⟩
      have hC2 := hC1'.only ho2 (by omega)
      have hu2 := own_only hu1 ho2 (by omega)
      have hv2 := own_only hv1 ho2 (by omega)
      have hB2 := (hB.trans hb1).trans (ho2.below (by omega) (by omega))
      have hz2' : wb.heap.size ≤ w2.heap.size := by have := ho2.size; omega
      have hG2 := hG.step ss1 ss2 (by omega) (by omega)
      have hx0 := hG.x0
      clear hC1' hS1 hu1 hv1 ho2 hb1 hB hG mm1 mm2
      go_wp2_with (at_builtin; refine wpList_append_lies _ rfl _ _ 34 (by rfl) wb.heap.size 3 i0 (.int .i64 0) 1 8 Try.underlying34 hi hz0 hz1 hz2 (by rfl) (by omega) _ _ _ (by rfl) (hu2.alloc _) ⟨w2.heap.size, 0, none⟩ 1 1 [.int .i64 x'] (by rfl) (by rfl) (World.news_of_block (heap_alloc_new w2 _)) (by intro u hu; simp at hu; subst hu; rfl) (by omega) (by unfold maxLen; omega) (by omega) (by simp; omega) (w2.heap.size + 1) (by simp) ?_; intro g1 cap1 w3 hown1 hgrow1 hat1 hlt1)
      have hall1 := (World.grownBy_alloc w2 _ _).trans hgrow1
      have hbw1 : Below wb.heap.size w2 w3 := (Below.refl _ _).grown hall1 hz2' (fun q hq => (hu2.lt q hq).1)
      have hC3 := At.belowB hC2 hbw1 (by omega)
      have hS3 := Sp.belowB hS2 hbw1 (by omega)
      have hv3 := hv2.kept hall1 (apart hne)
      have hz3 := hbw1.size
      have hne1 := new_apart hne hat1 hv2.lt (by omega)
      clear hgrow1 hall1 hC2 hS2 hu2
      go_wp2_with fail
      refine (true_c _ _ _ _ _ hC3).mono ?_
      rintro e w' ⟨rfl, rfl⟩
      go_wp2_with (at_builtin; refine wpList_append_lies _ rfl _ _ 34 (by rfl) wb.heap.size 3 i0 (.int .i64 0) 1 8 Try.underlying34 hi hz0 hz1 hz2 (by rfl) (by omega) _ _ _ (by rfl) (hv3.alloc _) ⟨w3.heap.size, 0, none⟩ 1 1 [.int .i64 t'] (by rfl) (by rfl) (World.news_of_block (heap_alloc_new w3 _)) (by intro u hu; simp at hu; subst hu; rfl) (by omega) (by unfold maxLen; omega) (by omega) (by simp; omega) (w3.heap.size + 1) (by simp) ?_; intro g2 cap2 w4 hown2 hgrow2 hat2 hlt2)
      have hall2 := (World.grownBy_alloc w3 _ _).trans hgrow2
      have hbw2 : Below wb.heap.size w3 w4 := (Below.refl _ _).grown hall2 (by omega) (fun q hq => (hv3.lt q hq).1)
      have hC4 := At.belowB hC3 hbw2 (by omega)
      have hS4 := Sp.belowB hS3 hbw2 (by omega)
      have hu4 := hown1.kept hall2 (.inr (Ne.symm hne1))
      have hz4 := hbw2.size
      have hB4 := hB2.trans ((hbw1.trans hbw2).mono (show w0.heap.size ≤ wb.heap.size by omega))
      have hne2 : g1 ≠ g2 := by
        rintro rfl
        rcases hat2 with h | h
        · exact hne1 h
        · omega
      clear hgrow2 hall2 hC3 hS3 hv3 hown1 hbw1 hbw2 hat1 hat2 hB2 hv2 hne
      refine (credit_q x x' w4 ss1 hx0 (by omega)).mono ?_
      rintro e w5 ⟨rfl, hb5⟩
      go_wp2
      go_roundw
      case rel =>
        have hz5 := hb5.size
        refine ⟨k + 1, xs ++ [x'], ts ++ [t'], x', t', m', by omega, by go_num, ?_, rfl, ?_, ?_, ?_, hC4.below hb5, hS4.below hb5, hJ, hx'.out, by omega, hG2, belowNext hB4 hb5 (by omega), by omega⟩
        · congr 1; omega
        · rw [List.map_append]; exact own_below hu4 hb5
        · rw [List.map_append]; exact own_below hown2 hb5
        · intro g h1 h2; simp only [Value.ownBlock, Option.some.injEq] at h1 h2; omega
      case measure => simp [intOf]; omega
    · obtain rfl : k = len := by omega
      obtain ⟨g1, cap1, rfl, hga, hgb⟩ := hu.form hp
      obtain ⟨g2, cap2, rfl, hgc, hgd⟩ := hv.form hp
      obtain ⟨F, H, hcells, hpr⟩ := rows_of hu hv hG
      have HC := Lib.hid hcells
      have HP := Lib.hid hpr
      obtain ⟨W1, hW1⟩ : ∃ W1, RowKit.Hid (W1 = wr) := ⟨_, Lib.hid rfl⟩
      rw [← hW1.out] at hgb hgd hB HC
      clear hcells hpr hu hv hne hC hS hI hx hG HF HF' ht
      go_wp2
      go_loopw [19] (fun i wq => ∃ p : Nat, p ≤ k ∧ i = .int .i64 p ∧ Below W1.heap.size W1 wq) (fun i _ => k - (intOf i).toNat)
      case atStart => exact ⟨0, by omega, rfl, by rw [hW1.out]; exact Below.refl _ _⟩
      case round =>
        obtain ⟨p, hpk, rfl, hBp⟩ := hrel
        by_cases hlt2 : p < k
        · go_wp2
          go_loopw [20] (fun i ws => ∃ q : Nat, q ≤ p ∧ i = .int .i64 q ∧ Below W1.heap.size W1 ws) (fun i _ => p - (intOf i).toNat)
          case atStart => exact ⟨0, by omega, rfl, hBp⟩
          case round =>
            obtain ⟨q, hqp, rfl, hBq⟩ := hrel
            by_cases hlt3 : q < p
            · obtain ⟨a1, a2, a3, a4, a5, a6⟩ := HC.out p hlt2
              obtain ⟨e1, e2, e3, e4, e5, e6⟩ := HC.out q (by omega)
              obtain ⟨y1, y2⟩ := HP.out p q hlt3 hlt2
              replace a1 := (hBq.cell (p := ⟨g1, _, none⟩) hgb).trans a1
              replace a2 := (hBq.cell (p := ⟨g2, _, none⟩) hgd).trans a2
              replace e1 := (hBq.cell (p := ⟨g1, _, none⟩) hgb).trans e1
              replace e2 := (hBq.cell (p := ⟨g2, _, none⟩) hgd).trans e2
              have hqk : q < k := by omega
              have hw1 : IntKind.i64.wrap (F p - F q) = F p - F q := IntWalk.i64_in _ (by omega)
              have hw2 : IntKind.i64.wrap (H p - H q) = H p - H q := IntWalk.i64_in _ (by omega)
              go_wp2
              go_quiet (fail)
              go_wp2
              go_roundw
              case rel => exact ⟨q + 1, by omega, by go_num, below_drewN hBq _⟩
              case measure => simp [intOf]; omega
            · obtain rfl : q = p := by omega
              go_wp2
              go_roundw
              case rel => exact ⟨q + 1, by omega, by go_num, hBq⟩
              case measure => simp [intOf]; omega
        · obtain rfl : p = k := by omega
          go_wp2_with (go_at_call 36; refine (wakes20_c _).mono ?_; rintro e w3 ⟨rfl, hb3⟩)
          go_ret
          exact ⟨rfl, belowNext (belowNext hB hBp (by omega)) hb3 (by have := hBp.size; omega)⟩
end Go.Proofs.Ytnbgilgnkedojaa
