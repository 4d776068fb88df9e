/- Rows by what they say: the reference's Put. -/
import Derived.Test.YtbiodlhiilmgkaaCt15
namespace Go.Proofs.Ytbiodlhiilmgkaa
open Go.ChangeShapes Go.WideShapes Go.ChangeAt Go.RowKit
set_option linter.unusedVariables false
set_option linter.unusedSimpArgs false
open BigFrame Bs Rw Ct

namespace Ct
theorem own_upto {w : World} {base n k cap : Nat} {a : Option Addr} {es : List Ent} (h : w.ownsRow base 39 5 (.slice a n cap) n (rowE es)) (hk : k ≤ n) : w.ownsRow base 39 5 (.slice (cutA a 0 cap 5) k cap) k (rowE (es.take k)) ∧ (Value.slice (cutA a 0 cap 5) k cap).ownBlock = (Value.slice a n cap).ownBlock := by
  have hn : n = es.length := by have := h.1; rw [rowE_len] at this; omega
  rcases h.2 with ⟨hv, h0⟩ | ⟨g, cap', cur, hv, hb, hh, hnc, hcm, hsz, htk⟩
  · cases hv
    obtain rfl : k = 0 := by omega
    have e : cutA none 0 0 5 = none := by unfold cutA; rfl
    rw [e]
    exact ⟨⟨by rw [List.take_zero]; rfl, .inl ⟨rfl, rfl⟩⟩, rfl⟩
  · cases hv
    have e : cutA (some ⟨g, 0, none⟩) 0 cap 5 = some ⟨g, 0, none⟩ := by
      unfold cutA
      split
      · rfl
      · rw [Option.map_some, Addr.add_lit]
    rw [e]
    refine ⟨⟨by rw [rowE_len, List.length_take]; omega, .inr ⟨g, cap, cur, rfl, hb, hh, by omega, hcm, hsz, ?_⟩⟩, rfl⟩
    rw [← rowE_take, ← htk, List.take_take]
    congr 1
    omega
theorem wp_append_es {o : Oper} {a : Act} {w : World} {K : Act → World → Prop} {Q : Exit → Act → World → Prop} (s x : Operand)
    (hop : o.op = .call { callee := .builtin .append, args := #[s, x], argTypes := #[22, 22] })
    (base : Nat) (v : Value) (n : Nat) (es1 : List Ent) (hs : a.eval s = v) (hown : w.ownsRow base 39 5 v n (rowE es1))
    (b : Option Addr) (m c : Nat) (es : List Ent) (hx : a.eval x = .slice b m c) (hes : EsAt w b m c es) (h63 : n + m ≤ 1000000) (hbase : base ≤ w.heap.size)
    (hK : ∀ v' w', w'.ownsRow base 39 5 v' (n + m) (rowE (es1 ++ es)) → w.grownBy w' v.ownBlock → K (a.put o.dst v') w') : Oper.wp Try.prog o a w K Q := by
  obtain ⟨i0, hi0, hz0, hz1, hz2⟩ := info_parts info_entry
  have key : ∃ v' w', (Builtin.append_ #[22, 22] o.type #[v, .slice b m c]).run Try.prog w = .ok v' w' ∧ w'.ownsRow base 39 5 v' (n + m) (rowE es1 ++ rowE es) ∧ w.grownBy w' v.ownBlock := by
    by_cases hm : m = 0
    · subst hm
      have e : es = [] := List.eq_nil_of_length_eq_zero hes.len.symm
      subst e
      exact ⟨v, w, run_append_zero (P := Try.prog) w base 22 o.type 39 i0 5 Try.underlying22 hi0 v n (rowE es1) hown b c, by simpa [rowE] using hown, ⟨rfl, rfl, rfl, Nat.le_refl _, fun _ _ _ => rfl⟩⟩
    · obtain ⟨g, o', rfl, hg, hc⟩ := hes.cells (by omega)
      obtain ⟨v', w', hrun, r1, r2, _⟩ := run_append_own (P := Try.prog) w base 22 o.type 39 i0 _ 5 56 Try.underlying22 hi0 hz0 hz1 hz2 (by rfl) (by omega) v n (rowE es1) hown ⟨g, o', none⟩ m c (rowE es) (by rw [rowE_len, hes.len]) (fun j u hu => by rw [Addr.add_lit]; exact hc j u hu) (rowE_one _) (by unfold maxLen; omega) (by omega) hbase
      exact ⟨v', w', hrun, r1, r2⟩
  obtain ⟨v', w', hr, q1, q2⟩ := key
  unfold Oper.wp execOp
  simp only [hop, resolve, invoke, builtin, Sem.run_bind, Sem.run_pure, Result.andThen_ok, List.map_toArray, List.map_cons, List.map_nil, hs, hx, hr]
  exact hK v' w' (by rw [rowE_app]; exact q1) q2
theorem EsAt.cut_all {w : World} {a : Option Addr} {n cap : Nat} {es : List Ent} (h : EsAt w a n cap es) {k : Nat} (h1 : k ≤ n) : EsAt w (cutA a k cap 5) (n - k) (cap - k) (es.drop k) := by
  have hle := h.le
  have hmx := h.mx
  refine ⟨by rw [List.length_drop, h.len], by omega, by omega, fun hn => ?_⟩
  obtain ⟨b, o, rfl, hb, hc⟩ := h.row (by omega)
  have e : cutA (some ⟨b, o, none⟩) k cap 5 = some ⟨b, o + k * 5, none⟩ := by
    unfold cutA
    rw [if_neg (by omega), Option.map_some, Addr.add_lit]
  refine ⟨b, o + k * 5, e, hb, fun j x hx => ?_⟩
  rw [List.getElem?_drop] at hx
  have := hc _ _ hx
  rwa [show o + (k + j) * 5 = o + k * 5 + j * 5 by omega] at this
theorem madeR_bad {b t : Int} {l : List En} (h : (madeR b t l).e ≠ 0) : madeR b t l = ⟨0, 0, [], (madeR b t l).e⟩ := by
  unfold madeR at h ⊢
  split
  · rfl
  · rename_i h1
    rw [if_neg h1] at h
    split
    · rename_i h2
      rw [if_pos h2] at h
      exact absurd rfl h
    · rfl
/-- Behind the loop. -/
def PutF (w5 : World) (K : Nat) (s18 : Value) (wx : World) : Prop := s18 = .int .i64 (K : Nat) ∧ Below w5.heap.size w5 wx
end Ct
attribute [local go_sem ↓] sliced_cut
attribute [local go_sem] mx_fold mn_fold

set_option maxRecDepth 100000 in
set_option maxHeartbeats 40000000 in
theorem rput_main (b t i τ : Int) (a a2 : Option Addr) (n c m c2 : Nat) (l l2 : List En) (w : World) (h : LAt w a n c l) (h2 : LAt w a2 m c2 l2) (hw : Wfl l) (hw2 : Wfl l2) (hb : I64 b) (ht : I64 t) (hi : I64 i) (hτ : I64 τ) (hc : chk b t l = true) (h16 : l2.length ≤ 16) (hc2 : chk i τ l2 = true) :
    Calls Try.prog 11 #[.agg #[.int .i64 b, .int .i64 t, .slice a n c], .int .i64 i, .int .i64 τ, .slice a2 m c2] w (PutP w (putR b t l i τ l2)) := by
  have hB0 : Below w.heap.size w ((w.alloc (.cells #[.int .i64 b, .int .i64 t, .slice a n c] 24)).alloc (.cells #[.int .i64 0, .int .i64 0, .slice none 0 0] 24)) := ((Below.refl _ _).alloc (Nat.le_refl _) _).alloc (by simp) _
  have bx := Lib.hid ((blk_new w [.int .i64 b, .int .i64 t, .slice a n c] 24).bel ((Below.refl _ _).alloc (Nat.le_refl _) (.cells #[.int .i64 0, .int .i64 0, .slice none 0 0] 24)))
  have rs := blk_new (w.alloc (.cells #[.int .i64 b, .int .i64 t, .slice a n c] 24)) [.int .i64 0, .int .i64 0, .slice none 0 0] 24
  rw [World.size_alloc] at rs
  replace rs := Lib.hid rs
  have hck := Lib.hid (rcheck_l b t a n c l _ (h.bel hB0) hw hb ht)
  rw [hc] at hck
  replace hB0 := Lib.hid hB0
  have hck2 := Lib.hid (fun u (hu : Below w.heap.size w u) => rcheck_l i τ a2 m c2 l2 u (h2.bel hu) hw2 hi hτ)
  rw [hc2] at hck2
  have hml := h2.len
  have hnl := h.len
  obtain ⟨g1, _⟩ := chk_iff.1 hc
  obtain ⟨j1, _⟩ := chk_iff.1 hc2
  have g2 : 0 ≤ b := g1.1
  have g3 : (n : Int) ≤ 4096 := by omega
  have g4 : b ≤ 1099511627776 := by omega
  have j2 : 0 ≤ i := j1.1
  have j3 : (m : Int) ≤ 16 := by omega
  have j4 : i ≤ 1099511627776 := by omega
  have k16 : ¬ (16 : Int) < (m : Int) := by omega
  have d16 : decide ((16 : Int) < (m : Int)) = false := decide_eq_false (by omega)
  have hsm := Lib.hid (chk_sml hc)
  have hsm2 := Lib.hid (chk_sml hc2)
  have hcp := Lib.hid (fun u (hu : Below w.heap.size w u) => rcopied_c a n c l u (h.bel hu) hsm.out)
  have hla := Lib.hid (fun u (hu : Below w.heap.size w u) => rlast_l b t a n c l u (h.bel hu) hw hb ht hc)
  have htm := Lib.hid (fun u (hu : Below w.heap.size w u) => rterm_c b t i a n c l u (h.bel hu) hw hb ht hi hc)
  have HC := Lib.hid hc
  have HC2 := Lib.hid hc2
  have H := Lib.hid h
  have H2 := Lib.hid h2
  replace hml := Lib.hid hml
  replace hnl := Lib.hid hnl
  clear g1 j1 hc hc2 h h2
  go_enter Try.func11, Try.ntmps11
  go_wp2_with fail
  refine hck.out.mono ?_
  rintro e w1 ⟨rfl, hb1⟩
  have bx1 := Lib.hid (bx.out.bel hb1)
  have rs1 := Lib.hid (rs.out.bel hb1)
  have hB1 := Lib.hid (bNext hB0.out hb1 (Nat.le_refl _))
  clear hb1 hck rs hB0 bx
  go_wp2_with fail
  refine (hck2.out _ hB1.out).mono ?_
  rintro e w2 ⟨rfl, hb2⟩
  have bx2 := bx1.out.bel hb2
  have rs2 := Lib.hid (rs1.out.bel hb2)
  have hB2 := Lib.hid (bNext hB1.out hb2 (Nat.le_refl _))
  have p0 := bx2.c 0 _ rfl
  have p1 := bx2.c 1 _ rfl
  have p2 := bx2.c 2 _ rfl
  replace bx2 := Lib.hid bx2
  clear hb2 hck2 rs1 hB1 bx1
  go_wp2_with fail
  refine (hla.out _ hB2.out).mono ?_
  rintro e w3 ⟨rfl, hb3⟩
  have kX3 := bx2.out.bel hb3
  have kS3 := Lib.hid (rs2.out.bel hb3)
  have kB3 := Lib.hid (bNext hB2.out hb3 (Nat.le_refl _))
  have p0 := kX3.c 0 _ rfl
  have p1 := kX3.c 1 _ rfl
  have p2 := kX3.c 2 _ rfl
  have hlw := kS3.out.l
  replace kX3 := Lib.hid kX3
  clear hb3 hla bx2 rs2 hB2
  by_cases hE : b + (l.length : Int) < i
  · have hm := Lib.hid (show putR b t l i τ l2 = ⟨⟨b, t, l, 0⟩, b + l.length, false⟩ by
      unfold putR
      rw [if_neg (by simp [HC.out]), if_neg (by simp [HC2.out]; omega), if_pos hE])
    go_upto_region 8 with fail
    refine wp_region_noPanic ?_
    refine Stg.wp_region_L [9] (Bs.SB w3) (by kernel_rfl) (fun _ => (Below.refl _ _).drew) (fun hHeld => ?_)
    refine Stg.wpAnyL_start (n' := 13) (l' := #[false, false, false, false, false, false, false, false, false, false, false, false, false]) (by kernel_rfl) (by kernel_rfl) ?_
    refine Stg.wpAnyL_free (i := 0) (v := ?_) 0 rfl (by kernel_rfl) (by kernel_rfl) (by kernel_rfl) (by kernel_rfl) (by kernel_rfl) (fun _ _ _ h => h) (Or.inl ⟨by kernel_rfl, ?_⟩) (by assumption) ?_
    rotate_left
    · intro u _
      try simp only [List.getElem_toArray, List.getElem_cons_succ, List.getElem_cons_zero]
      go_simp
      try with_reducible rfl
    try simp only [Act.put, List.setIfInBounds_toArray, List.set_cons_zero, List.set_cons_succ]
    refine Stg.wpAnyL_take (i := 1) (v := ?_) [7, 9, 10, 11, 12] 0 rfl (by kernel_rfl) (by kernel_rfl) (by kernel_rfl) (by kernel_rfl) (by kernel_rfl) (fun _ _ _ h => h) (Or.inl ⟨by kernel_rfl, ?_⟩) (by assumption) ?_
    rotate_left
    · intro u hSu
      skip
      have sB := hSu rfl
      have y0 := cellB sB p0
      have y1 := cellB sB p1
      have y2 := cellB sB p2
      try simp only [List.getElem_toArray, List.getElem_cons_succ, List.getElem_cons_zero]
      go_simp
      try with_reducible rfl
    try simp only [Act.put, List.setIfInBounds_toArray, List.set_cons_zero, List.set_cons_succ]
    refine Stg.wpAnyL_free (i := 2) (v := ?_) 0 rfl (by kernel_rfl) (by kernel_rfl) (by kernel_rfl) (by kernel_rfl) (by kernel_rfl) (fun _ _ _ h => h) (Or.inl ⟨by kernel_rfl, ?_⟩) (by assumption) ?_
    rotate_left
    · intro u _
      try simp only [List.getElem_toArray, List.getElem_cons_succ, List.getElem_cons_zero]
      go_simp
      try with_reducible rfl
    try simp only [Act.put, List.setIfInBounds_toArray, List.set_cons_zero, List.set_cons_succ]
    refine Stg.wpAnyL_start (n' := 10) (l' := #[true, true, true, false, false, false, false, false, false, false, false, false, false]) (by kernel_rfl) (by kernel_rfl) ?_
    refine Stg.wpAnyL_take (i := 3) (v := ?_) [7, 9, 10, 11, 12] 0 rfl (by kernel_rfl) (by kernel_rfl) (by kernel_rfl) (by kernel_rfl) (by kernel_rfl) (fun _ _ _ h => h) (Or.inl ⟨by kernel_rfl, ?_⟩) (by assumption) ?_
    rotate_left
    · intro u hSu
      skip
      have sB := hSu rfl
      have y0 := cellB sB p0
      have y1 := cellB sB p1
      have y2 := cellB sB p2
      try simp only [List.getElem_toArray, List.getElem_cons_succ, List.getElem_cons_zero]
      go_simp
      try with_reducible rfl
    try simp only [Act.put, List.setIfInBounds_toArray, List.set_cons_zero, List.set_cons_succ]
    refine Stg.wpAnyL_free (i := 4) (v := ?_) 0 rfl (by kernel_rfl) (by kernel_rfl) (by kernel_rfl) (by kernel_rfl) (by kernel_rfl) (fun _ _ _ h => h) (Or.inl ⟨by kernel_rfl, ?_⟩) (by assumption) ?_
    rotate_left
    · intro u _
      try simp only [List.getElem_toArray, List.getElem_cons_succ, List.getElem_cons_zero]
      go_simp
      try with_reducible rfl
    try simp only [Act.put, List.setIfInBounds_toArray, List.set_cons_zero, List.set_cons_succ]
    refine Stg.wpAnyL_take (i := 5) (v := ?_) [6, 7, 9, 10, 11, 12] 0 rfl (by kernel_rfl) (by kernel_rfl) (by kernel_rfl) (by kernel_rfl) (by kernel_rfl) (fun _ _ _ h => h) (Or.inl ⟨by kernel_rfl, ?_⟩) (by assumption) ?_
    rotate_left
    · intro u hSu
      skip
      have sB := hSu rfl
      have y0 := cellB sB p0
      have y1 := cellB sB p1
      have y2 := cellB sB p2
      try simp only [List.getElem_toArray, List.getElem_cons_succ, List.getElem_cons_zero]
      go_simp
      try with_reducible rfl
    try simp only [Act.put, List.setIfInBounds_toArray, List.set_cons_zero, List.set_cons_succ]
    refine Stg.wpAnyL_start (n' := 7) (l' := #[true, true, true, true, true, true, false, false, false, false, false, false, false]) (by kernel_rfl) (by kernel_rfl) ?_
    refine Stg.wpAnyL_free (i := 8) (v := ?_) 0 rfl (by kernel_rfl) (by kernel_rfl) (by kernel_rfl) (by kernel_rfl) (by kernel_rfl) (fun _ _ _ h => h) (Or.inl ⟨by kernel_rfl, ?_⟩) (by assumption) ?_
    rotate_left
    · intro u _
      try simp only [List.getElem_toArray, List.getElem_cons_succ, List.getElem_cons_zero]
      go_simp
      try with_reducible rfl
    try simp only [Act.put, List.setIfInBounds_toArray, List.set_cons_zero, List.set_cons_succ]
    refine Stg.wpAnyL_one (i := 6) 0 rfl (by kernel_rfl) (by kernel_rfl) (fun K hK => ?_)
    try simp only [List.getElem_toArray, List.getElem_cons_succ, List.getElem_cons_zero]
    go_simp
    refine (hcp.out _ (bNext kB3.out (hHeld rfl) (Nat.le_refl _))).mono ?_
    rintro e w6 ⟨a6, c6, rfl, hL6, hF6, hb1⟩
    refine hK.out _ _ ?_ (fun hHeld1 => ?_)
    · exact fun _ => bNext (hHeld rfl) hb1 (Nat.le_refl _)
    clear hK K
    try simp only [Act.put, List.setIfInBounds_toArray, List.set_cons_zero, List.set_cons_succ]
    refine Stg.wpAnyL_free (i := 7) (v := ?_) 0 rfl (by kernel_rfl) (by kernel_rfl) (by kernel_rfl) (by kernel_rfl) (by kernel_rfl) (fun _ _ _ h => h) (Or.inl ⟨by kernel_rfl, ?_⟩) (by assumption) ?_
    rotate_left
    · intro u _
      try simp only [List.getElem_toArray, List.getElem_cons_succ, List.getElem_cons_zero]
      go_simp
      try with_reducible rfl
    try simp only [Act.put, List.setIfInBounds_toArray, List.set_cons_zero, List.set_cons_succ]
    refine Stg.wpAnyL_start (n' := 4) (l' := #[true, true, true, true, true, true, true, true, true, false, false, false, false]) (by kernel_rfl) (by kernel_rfl) ?_
    refine Stg.wpAnyL_one (i := 9) 1 rfl (by kernel_rfl) (by kernel_rfl) (fun K hK => ?_)
    have hd := (Below.refl w3.heap.size w3).drew
    have hbb := hd.trans (hb1.mono (by simp))
    have rs6 := kS3.out.bel hbb
    have r0 := rs6.c 0 _ rfl
    have r1 := rs6.c 1 _ rfl
    have r2 := rs6.c 2 _ rfl
    have rf := rs6.f 0
    have rf1 := rs6.f 1
    have rf2 := rs6.f 2
    have rs7 := blk_set3 rs6 (.int .i64 b) (.int .i64 t) (.slice a6 n c6)
    have s0 := Lib.hid (rs7.c 0 _ rfl)
    have s1 := Lib.hid (rs7.c 1 _ rfl)
    have s2 := Lib.hid (rs7.c 2 _ rfl)
    have hFF := hF6.mono (show w.heap.size + 2 ≤ w3.drew.heap.size by simp; omega)
    have hL7 := Lib.hid (hL6.set3 hFF (show w.heap.size + 1 < w.heap.size + 2 by omega) rs6 (.int .i64 b) (.int .i64 t) (.slice a6 n c6))
    have hB7 := Lib.hid (below_set3 (bNext kB3.out hbb (Nat.le_refl _)) (show w.heap.size ≤ w.heap.size + 1 by omega) (.int .i64 b) (.int .i64 t) (.slice a6 n c6))
    clear hd hbb rs6 rs7 hFF hL6 hF6
    try simp only [List.getElem_toArray, List.getElem_cons_succ, List.getElem_cons_zero]
    go_simp
    refine hK.out _ _ ?_ (fun hHeld2 => ?_)
    · exact fun h => absurd h (by decide)
    clear hK K
    try simp only [Act.put, List.setIfInBounds_toArray, List.set_cons_zero, List.set_cons_succ]
    refine Stg.wpAnyL_free (i := 10) (v := ?_) 1 rfl (by kernel_rfl) (by kernel_rfl) (by kernel_rfl) (by kernel_rfl) (by kernel_rfl) (fun _ _ _ h => h) (Or.inl ⟨by kernel_rfl, ?_⟩) (by assumption) ?_
    rotate_left
    · intro u _
      try simp only [List.getElem_toArray, List.getElem_cons_succ, List.getElem_cons_zero]
      go_simp
      try with_reducible rfl
    try simp only [Act.put, List.setIfInBounds_toArray, List.set_cons_zero, List.set_cons_succ]
    refine Stg.wpAnyL_free (i := 11) (v := ?_) 1 rfl (by kernel_rfl) (by kernel_rfl) (by kernel_rfl) (by kernel_rfl) (by kernel_rfl) (fun _ _ _ h => h) (Or.inl ⟨by kernel_rfl, ?_⟩) (by assumption) ?_
    rotate_left
    · intro u _
      try simp only [List.getElem_toArray, List.getElem_cons_succ, List.getElem_cons_zero]
      go_simp
      try with_reducible rfl
    try simp only [Act.put, List.setIfInBounds_toArray, List.set_cons_zero, List.set_cons_succ]
    refine Stg.wpAnyL_start (n' := 1) (l' := #[true, true, true, true, true, true, true, true, true, true, true, true, false]) (by kernel_rfl) (by kernel_rfl) ?_
    refine Stg.wpAnyL_free (i := 12) (v := ?_) 1 rfl (by kernel_rfl) (by kernel_rfl) (by kernel_rfl) (by kernel_rfl) (by kernel_rfl) (fun _ _ _ h => h) (Or.inl ⟨by kernel_rfl, ?_⟩) (by assumption) ?_
    rotate_left
    · intro u _
      try simp only [List.getElem_toArray, List.getElem_cons_succ, List.getElem_cons_zero]
      go_simp
      try with_reducible rfl
    try simp only [Act.put, List.setIfInBounds_toArray, List.set_cons_zero, List.set_cons_succ]
    refine Stg.wpAnyL_done (by kernel_rfl) ?_ _
    try simp only [List.getElem_toArray, List.getElem_cons_succ, List.getElem_cons_zero]
    try simp only [Act.put, List.setIfInBounds_toArray, List.set_cons_zero, List.set_cons_succ]
    refine NoPanic.normal ?_
    go_wp2_with fail
    refine bodyPost_ret (v := .tuple #[.agg #[.int .i64 b, .int .i64 t, .slice a6 n c6], .int .i64 (b + l.length), .bool false, .int .i64 0]) (by simp [results, Try.results11, go_sem, s0.out, s1.out, s2.out]) rfl ?_
    rw [hm.out]
    exact ⟨_, _, _, rfl, hL7.out, hB7.out⟩
  have dE : decide (b + (l.length : Int) < i) = false := decide_eq_false hE
  go_upto_if 62 with fail
  go_cut [1, 3, 14] (fun s1 s3 s14 wx => PutD w b t a n c l i τ l2 s1 s3 s14 wx)
  case first =>
    have hlE := hnl.out
    have hlm := hml.out
    by_cases h1 : i < b
    · have hbi : IntKind.i64.wrap (b - i) = b - i := IntWalk.i64_in _ (by omega)
      have d1 : decide (i < b) = true := decide_eq_true h1
      by_cases h3 : i + (m : Int) < b
      · have hm := Lib.hid (show putR b t l i τ l2 = ⟨⟨b, t, l, 0⟩, b, false⟩ by
          unfold putR
          rw [if_neg (by simp [HC.out]), if_neg (by simp [HC2.out]; omega), if_neg (by omega), if_pos (by omega)])
        have h3' : (m : Int) < b - i := by omega
        have d3 : decide ((m : Int) < b - i) = true := decide_eq_true h3'
        clear hlE hlm h3
        go_upto_region 11 with fail
        refine wp_region_noPanic ?_
        refine Stg.wp_region_L [] (fun _ u => Below w.heap.size w u ∧ Blk u w.heap.size [.int .i64 b, .int .i64 t, .slice a n c]) (by kernel_rfl) (⟨bNext kB3.out (Below.refl w3.heap.size w3).drew (Nat.le_refl _), kX3.out.drew⟩) (fun hHeld => ?_)
        refine Stg.wpAnyL_start (n' := 14) (l' := #[false, false, false, false, false, false, false, false, false, false, false, false, false, false]) (by kernel_rfl) (by kernel_rfl) ?_
        refine Stg.wpAnyL_free (i := 0) (v := ?_) 0 rfl (by kernel_rfl) (by kernel_rfl) (by kernel_rfl) (by kernel_rfl) (by kernel_rfl) (fun _ _ _ h => h) (Or.inl ⟨by kernel_rfl, ?_⟩) (by assumption) ?_
        rotate_left
        · intro u _
          try simp only [List.getElem_toArray, List.getElem_cons_succ, List.getElem_cons_zero]
          go_simp
          try with_reducible rfl
        try simp only [Act.put, List.setIfInBounds_toArray, List.set_cons_zero, List.set_cons_succ]
        refine Stg.wpAnyL_take (i := 1) (v := ?_) [7, 10, 11, 12, 13] 0 rfl (by kernel_rfl) (by kernel_rfl) (by kernel_rfl) (by kernel_rfl) (by kernel_rfl) (fun _ _ _ h => h) (Or.inl ⟨by kernel_rfl, ?_⟩) (by assumption) ?_
        rotate_left
        · intro u hSu
          obtain ⟨sB, sX⟩ := hSu
          have y0 := sX.c 0 _ rfl
          have y1 := sX.c 1 _ rfl
          have y2 := sX.c 2 _ rfl
          try simp only [List.getElem_toArray, List.getElem_cons_succ, List.getElem_cons_zero]
          go_simp
          try with_reducible rfl
        try simp only [Act.put, List.setIfInBounds_toArray, List.set_cons_zero, List.set_cons_succ]
        refine Stg.wpAnyL_free (i := 2) (v := ?_) 0 rfl (by kernel_rfl) (by kernel_rfl) (by kernel_rfl) (by kernel_rfl) (by kernel_rfl) (fun _ _ _ h => h) (Or.inl ⟨by kernel_rfl, ?_⟩) (by assumption) ?_
        rotate_left
        · intro u _
          try simp only [List.getElem_toArray, List.getElem_cons_succ, List.getElem_cons_zero]
          go_simp
          try with_reducible rfl
        try simp only [Act.put, List.setIfInBounds_toArray, List.set_cons_zero, List.set_cons_succ]
        refine Stg.wpAnyL_start (n' := 11) (l' := #[true, true, true, false, false, false, false, false, false, false, false, false, false, false]) (by kernel_rfl) (by kernel_rfl) ?_
        refine Stg.wpAnyL_take (i := 3) (v := ?_) [7, 10, 11, 12, 13] 0 rfl (by kernel_rfl) (by kernel_rfl) (by kernel_rfl) (by kernel_rfl) (by kernel_rfl) (fun _ _ _ h => h) (Or.inl ⟨by kernel_rfl, ?_⟩) (by assumption) ?_
        rotate_left
        · intro u hSu
          obtain ⟨sB, sX⟩ := hSu
          have y0 := sX.c 0 _ rfl
          have y1 := sX.c 1 _ rfl
          have y2 := sX.c 2 _ rfl
          try simp only [List.getElem_toArray, List.getElem_cons_succ, List.getElem_cons_zero]
          go_simp
          try with_reducible rfl
        try simp only [Act.put, List.setIfInBounds_toArray, List.set_cons_zero, List.set_cons_succ]
        refine Stg.wpAnyL_free (i := 4) (v := ?_) 0 rfl (by kernel_rfl) (by kernel_rfl) (by kernel_rfl) (by kernel_rfl) (by kernel_rfl) (fun _ _ _ h => h) (Or.inl ⟨by kernel_rfl, ?_⟩) (by assumption) ?_
        rotate_left
        · intro u _
          try simp only [List.getElem_toArray, List.getElem_cons_succ, List.getElem_cons_zero]
          go_simp
          try with_reducible rfl
        try simp only [Act.put, List.setIfInBounds_toArray, List.set_cons_zero, List.set_cons_succ]
        refine Stg.wpAnyL_take (i := 5) (v := ?_) [6, 7, 10, 11, 12, 13] 0 rfl (by kernel_rfl) (by kernel_rfl) (by kernel_rfl) (by kernel_rfl) (by kernel_rfl) (fun _ _ _ h => h) (Or.inl ⟨by kernel_rfl, ?_⟩) (by assumption) ?_
        rotate_left
        · intro u hSu
          obtain ⟨sB, sX⟩ := hSu
          have y0 := sX.c 0 _ rfl
          have y1 := sX.c 1 _ rfl
          have y2 := sX.c 2 _ rfl
          try simp only [List.getElem_toArray, List.getElem_cons_succ, List.getElem_cons_zero]
          go_simp
          try with_reducible rfl
        try simp only [Act.put, List.setIfInBounds_toArray, List.set_cons_zero, List.set_cons_succ]
        refine Stg.wpAnyL_start (n' := 8) (l' := #[true, true, true, true, true, true, false, false, false, false, false, false, false, false]) (by kernel_rfl) (by kernel_rfl) ?_
        refine Stg.wpAnyL_free (i := 8) (v := ?_) 0 rfl (by kernel_rfl) (by kernel_rfl) (by kernel_rfl) (by kernel_rfl) (by kernel_rfl) (fun _ _ _ h => h) (Or.inl ⟨by kernel_rfl, ?_⟩) (by assumption) ?_
        rotate_left
        · intro u _
          try simp only [List.getElem_toArray, List.getElem_cons_succ, List.getElem_cons_zero]
          go_simp
          try with_reducible rfl
        try simp only [Act.put, List.setIfInBounds_toArray, List.set_cons_zero, List.set_cons_succ]
        refine Stg.wpAnyL_take (i := 9) (v := ?_) [11, 12, 13] 0 rfl (by kernel_rfl) (by kernel_rfl) (by kernel_rfl) (by kernel_rfl) (by kernel_rfl) (fun _ _ _ h => h) (Or.inl ⟨by kernel_rfl, ?_⟩) (by assumption) ?_
        rotate_left
        · intro u hSu
          obtain ⟨sB, sX⟩ := hSu
          have y0 := sX.c 0 _ rfl
          have y1 := sX.c 1 _ rfl
          have y2 := sX.c 2 _ rfl
          try simp only [List.getElem_toArray, List.getElem_cons_succ, List.getElem_cons_zero]
          go_simp
          try with_reducible rfl
        try simp only [Act.put, List.setIfInBounds_toArray, List.set_cons_zero, List.set_cons_succ]
        refine Stg.wpAnyL_one (i := 6) 0 rfl (by kernel_rfl) (by kernel_rfl) (fun K hK => ?_)
        try simp only [List.getElem_toArray, List.getElem_cons_succ, List.getElem_cons_zero]
        go_simp
        refine (hcp.out _ (hHeld).1).mono ?_
        rintro e w6 ⟨a6, c6, rfl, hL6, hF6, hb1⟩
        refine hK.out _ _ ?_ (fun hHeld1 => ?_)
        · exact ⟨bNext (hHeld).1 hb1 (Nat.le_refl _), (hHeld).2.bel hb1⟩
        clear hK K
        try simp only [Act.put, List.setIfInBounds_toArray, List.set_cons_zero, List.set_cons_succ]
        refine Stg.wpAnyL_start (n' := 5) (l' := #[true, true, true, true, true, true, true, false, true, true, false, false, false, false]) (by kernel_rfl) (by kernel_rfl) ?_
        refine Stg.wpAnyL_free (i := 7) (v := ?_) 0 rfl (by kernel_rfl) (by kernel_rfl) (by kernel_rfl) (by kernel_rfl) (by kernel_rfl) (fun _ _ _ h => h) (Or.inl ⟨by kernel_rfl, ?_⟩) (by assumption) ?_
        rotate_left
        · intro u _
          try simp only [List.getElem_toArray, List.getElem_cons_succ, List.getElem_cons_zero]
          go_simp
          try with_reducible rfl
        try simp only [Act.put, List.setIfInBounds_toArray, List.set_cons_zero, List.set_cons_succ]
        refine Stg.wpAnyL_one (i := 10) 0 rfl (by kernel_rfl) (by kernel_rfl) (fun K hK => ?_)
        have hd := (Below.refl w3.heap.size w3).drew
        have hbb := hd.trans (hb1.mono (by simp))
        have rs6 := kS3.out.bel hbb
        have r0 := rs6.c 0 _ rfl
        have r1 := rs6.c 1 _ rfl
        have r2 := rs6.c 2 _ rfl
        have rf := rs6.f 0
        have rf1 := rs6.f 1
        have rf2 := rs6.f 2
        have rs7 := blk_set3 rs6 (.int .i64 b) (.int .i64 t) (.slice a6 n c6)
        have s0 := Lib.hid (rs7.c 0 _ rfl)
        have s1 := Lib.hid (rs7.c 1 _ rfl)
        have s2 := Lib.hid (rs7.c 2 _ rfl)
        have hFF := hF6.mono (show w.heap.size + 2 ≤ w3.drew.heap.size by simp; omega)
        have hL7 := Lib.hid (hL6.set3 hFF (show w.heap.size + 1 < w.heap.size + 2 by omega) rs6 (.int .i64 b) (.int .i64 t) (.slice a6 n c6))
        have hB7 := Lib.hid (below_set3 (bNext kB3.out hbb (Nat.le_refl _)) (show w.heap.size ≤ w.heap.size + 1 by omega) (.int .i64 b) (.int .i64 t) (.slice a6 n c6))
        clear hd hbb rs6 rs7 hFF hL6 hF6
        try simp only [List.getElem_toArray, List.getElem_cons_succ, List.getElem_cons_zero]
        go_simp
        refine hK.out _ _ ?_ (fun hHeld2 => ?_)
        · exact ⟨below_set3 (hHeld1).1 (by omega) _ _ _, blk_oth3 (hHeld1).2 (by omega) _ _ _⟩
        clear hK K
        try simp only [Act.put, List.setIfInBounds_toArray, List.set_cons_zero, List.set_cons_succ]
        refine Stg.wpAnyL_free (i := 11) (v := ?_) 0 rfl (by kernel_rfl) (by kernel_rfl) (by kernel_rfl) (by kernel_rfl) (by kernel_rfl) (fun _ _ _ h => h) (Or.inl ⟨by kernel_rfl, ?_⟩) (by assumption) ?_
        rotate_left
        · intro u _
          try simp only [List.getElem_toArray, List.getElem_cons_succ, List.getElem_cons_zero]
          go_simp
          try with_reducible rfl
        try simp only [Act.put, List.setIfInBounds_toArray, List.set_cons_zero, List.set_cons_succ]
        refine Stg.wpAnyL_start (n' := 2) (l' := #[true, true, true, true, true, true, true, true, true, true, true, true, false, false]) (by kernel_rfl) (by kernel_rfl) ?_
        refine Stg.wpAnyL_free (i := 12) (v := ?_) 0 rfl (by kernel_rfl) (by kernel_rfl) (by kernel_rfl) (by kernel_rfl) (by kernel_rfl) (fun _ _ _ h => h) (Or.inl ⟨by kernel_rfl, ?_⟩) (by assumption) ?_
        rotate_left
        · intro u _
          try simp only [List.getElem_toArray, List.getElem_cons_succ, List.getElem_cons_zero]
          go_simp
          try with_reducible rfl
        try simp only [Act.put, List.setIfInBounds_toArray, List.set_cons_zero, List.set_cons_succ]
        refine Stg.wpAnyL_free (i := 13) (v := ?_) 0 rfl (by kernel_rfl) (by kernel_rfl) (by kernel_rfl) (by kernel_rfl) (by kernel_rfl) (fun _ _ _ h => h) (Or.inl ⟨by kernel_rfl, ?_⟩) (by assumption) ?_
        rotate_left
        · intro u _
          try simp only [List.getElem_toArray, List.getElem_cons_succ, List.getElem_cons_zero]
          go_simp
          try with_reducible rfl
        try simp only [Act.put, List.setIfInBounds_toArray, List.set_cons_zero, List.set_cons_succ]
        refine Stg.wpAnyL_done (by kernel_rfl) ?_ _
        try simp only [List.getElem_toArray, List.getElem_cons_succ, List.getElem_cons_zero]
        try simp only [Act.put, List.setIfInBounds_toArray, List.set_cons_zero, List.set_cons_succ]
        refine NoPanic.normal ?_
        go_wp2_with fail
        refine bodyPost_ret (v := .tuple #[.agg #[.int .i64 b, .int .i64 t, .slice a6 n c6], .int .i64 b, .bool false, .int .i64 0]) (by simp [results, Try.results11, go_sem, s0.out, s1.out, s2.out]) rfl ?_
        rw [hm.out]
        exact ⟨_, _, _, rfl, hL7.out, hB7.out⟩
      · obtain ⟨q, hq⟩ : ∃ q : Nat, b - i = (q : Int) := ⟨(b - i).toNat, by omega⟩
        have hqm : q ≤ m := by omega
        have hm := Lib.hid (show putR b t l i τ l2 = putT (madeR b t (putL l (l2.drop q) 0)) (i + (l2.length : Int)) by
          unfold putR
          rw [if_neg (by simp [HC.out]), if_neg (by simp [HC2.out]; omega), if_neg (by omega), if_neg (by omega), if_pos h1, hq, Int.toNat_natCast])
        have hM := Lib.hid ((H2.out.bel kB3.out).cut_all hqm)
        have hqI : (q : Int) ≤ (m : Int) := by omega
        have hqI' : ¬ (m : Int) < (q : Int) := by omega
        have hqN' : ¬ m < q := by omega
        have hM16 := Lib.hid (show (l2.drop q).length ≤ 16 by simp; omega)
        have hs9 := Lib.hid (show (i + (m : Int)) = i + (l2.length : Int) by omega)
        clear hlE hlm h3 hbi
        go_wp2_with fail
        go_meet
        exact ⟨0, l2.drop q, _, _, _, (by simp), rfl, (by rw [← hs9.out]), hM.out, Nat.zero_le _, hM16.out, (fun y hy => List.mem_of_mem_drop hy), hm.out, kX3.out, kS3.out, kB3.out⟩
    · have d1 : decide (i < b) = false := decide_eq_false h1
      by_cases h3 : termT b t l i = τ
      · obtain ⟨q, hq⟩ : ∃ q : Nat, i - b = (q : Int) := ⟨(i - b).toNat, by omega⟩
        have hqn : q ≤ n := by omega
        have hm := Lib.hid (show putR b t l i τ l2 = putT (madeR b t (putL l l2 q)) (i + (l2.length : Int)) by
          unfold putR
          rw [if_neg (by simp [HC.out]), if_neg (by simp [HC2.out]; omega), if_neg (by omega), if_neg (by omega), if_neg h1, if_neg (by simp [h3]), hq, Int.toNat_natCast])
        have d3 : (termT b t l i == τ) = true := by simpa using h3
        have d3' : (termT b t l i != τ) = false := by simpa using h3
        have hs9 := Lib.hid (show (i + (m : Int)) = i + (l2.length : Int) by omega)
        have hs1 := Lib.hid (show i = b + (q : Int) by omega)
        have hM16 := Lib.hid h16
        replace h3 := Lib.hid h3
        clear hlE hlm hq
        go_wp2_with fail
        refine (htm.out _ kB3.out).mono ?_
        rintro e w4 ⟨rfl, hb4⟩
        have kL2 := Lib.hid (H2.out.bel (bNext kB3.out hb4 (Nat.le_refl _)))
        have kX4 := Lib.hid (kX3.out.bel hb4)
        have kS4 := Lib.hid (kS3.out.bel hb4)
        have kB4 := Lib.hid (bNext kB3.out hb4 (Nat.le_refl _))
        clear hb4
        go_wp2_with fail
        go_meet
        exact ⟨q, l2, _, _, _, (by rw [← hs1.out]), rfl, (by rw [← hs9.out]), kL2.out, hqn, hM16.out, (fun y hy => hy), hm.out, kX4.out, kS4.out, kB4.out⟩
      · have hm := Lib.hid (show putR b t l i τ l2 = ⟨⟨b, t, l, 0⟩, max (i - 1) b, false⟩ by
          unfold putR
          rw [if_neg (by simp [HC.out]), if_neg (by simp [HC2.out]; omega), if_neg (by omega), if_neg (by omega), if_neg h1, if_pos h3])
        have d3 : (termT b t l i == τ) = false := by simpa using h3
        have d3' : (termT b t l i != τ) = true := by simpa using h3
        have hw1 : IntKind.i64.wrap (i - 1) = i - 1 := IntWalk.i64_in _ (by omega)
        replace h3 := Lib.hid h3
        clear hlE hlm
        go_wp2_with fail
        refine (htm.out _ kB3.out).mono ?_
        rintro e w4 ⟨rfl, hb4⟩
        have kX4 := Lib.hid (kX3.out.bel hb4)
        have kS4 := Lib.hid (kS3.out.bel hb4)
        have kB4 := Lib.hid (bNext kB3.out hb4 (Nat.le_refl _))
        have hlw4 : w.heap.size + 1 < w4.heap.size := kS4.out.l
        clear hb4
        go_upto_region 16 with fail
        refine wp_region_noPanic ?_
        refine Stg.wp_region_L [] (fun _ u => Below w.heap.size w u ∧ Blk u w.heap.size [.int .i64 b, .int .i64 t, .slice a n c]) (by kernel_rfl) (⟨bNext kB4.out (Below.refl w4.heap.size w4).drew (Nat.le_refl _), kX4.out.drew⟩) (fun hHeld => ?_)
        refine Stg.wpAnyL_start (n' := 17) (l' := #[false, false, false, false, false, false, false, false, false, false, false, false, false, false, false, false, false]) (by kernel_rfl) (by kernel_rfl) ?_
        refine Stg.wpAnyL_free (i := 0) (v := ?_) 0 rfl (by kernel_rfl) (by kernel_rfl) (by kernel_rfl) (by kernel_rfl) (by kernel_rfl) (fun _ _ _ h => h) (Or.inl ⟨by kernel_rfl, ?_⟩) (by assumption) ?_
        rotate_left
        · intro u _
          try simp only [List.getElem_toArray, List.getElem_cons_succ, List.getElem_cons_zero]
          go_simp
          try with_reducible rfl
        try simp only [Act.put, List.setIfInBounds_toArray, List.set_cons_zero, List.set_cons_succ]
        refine Stg.wpAnyL_take (i := 1) (v := ?_) [7, 13, 14, 15, 16] 0 rfl (by kernel_rfl) (by kernel_rfl) (by kernel_rfl) (by kernel_rfl) (by kernel_rfl) (fun _ _ _ h => h) (Or.inl ⟨by kernel_rfl, ?_⟩) (by assumption) ?_
        rotate_left
        · intro u hSu
          obtain ⟨sB, sX⟩ := hSu
          have y0 := sX.c 0 _ rfl
          have y1 := sX.c 1 _ rfl
          have y2 := sX.c 2 _ rfl
          try simp only [List.getElem_toArray, List.getElem_cons_succ, List.getElem_cons_zero]
          go_simp
          try with_reducible rfl
        try simp only [Act.put, List.setIfInBounds_toArray, List.set_cons_zero, List.set_cons_succ]
        refine Stg.wpAnyL_free (i := 2) (v := ?_) 0 rfl (by kernel_rfl) (by kernel_rfl) (by kernel_rfl) (by kernel_rfl) (by kernel_rfl) (fun _ _ _ h => h) (Or.inl ⟨by kernel_rfl, ?_⟩) (by assumption) ?_
        rotate_left
        · intro u _
          try simp only [List.getElem_toArray, List.getElem_cons_succ, List.getElem_cons_zero]
          go_simp
          try with_reducible rfl
        try simp only [Act.put, List.setIfInBounds_toArray, List.set_cons_zero, List.set_cons_succ]
        refine Stg.wpAnyL_start (n' := 14) (l' := #[true, true, true, false, false, false, false, false, false, false, false, false, false, false, false, false, false]) (by kernel_rfl) (by kernel_rfl) ?_
        refine Stg.wpAnyL_take (i := 3) (v := ?_) [7, 13, 14, 15, 16] 0 rfl (by kernel_rfl) (by kernel_rfl) (by kernel_rfl) (by kernel_rfl) (by kernel_rfl) (fun _ _ _ h => h) (Or.inl ⟨by kernel_rfl, ?_⟩) (by assumption) ?_
        rotate_left
        · intro u hSu
          obtain ⟨sB, sX⟩ := hSu
          have y0 := sX.c 0 _ rfl
          have y1 := sX.c 1 _ rfl
          have y2 := sX.c 2 _ rfl
          try simp only [List.getElem_toArray, List.getElem_cons_succ, List.getElem_cons_zero]
          go_simp
          try with_reducible rfl
        try simp only [Act.put, List.setIfInBounds_toArray, List.set_cons_zero, List.set_cons_succ]
        refine Stg.wpAnyL_free (i := 4) (v := ?_) 0 rfl (by kernel_rfl) (by kernel_rfl) (by kernel_rfl) (by kernel_rfl) (by kernel_rfl) (fun _ _ _ h => h) (Or.inl ⟨by kernel_rfl, ?_⟩) (by assumption) ?_
        rotate_left
        · intro u _
          try simp only [List.getElem_toArray, List.getElem_cons_succ, List.getElem_cons_zero]
          go_simp
          try with_reducible rfl
        try simp only [Act.put, List.setIfInBounds_toArray, List.set_cons_zero, List.set_cons_succ]
        refine Stg.wpAnyL_take (i := 5) (v := ?_) [6, 7, 13, 14, 15, 16] 0 rfl (by kernel_rfl) (by kernel_rfl) (by kernel_rfl) (by kernel_rfl) (by kernel_rfl) (fun _ _ _ h => h) (Or.inl ⟨by kernel_rfl, ?_⟩) (by assumption) ?_
        rotate_left
        · intro u hSu
          obtain ⟨sB, sX⟩ := hSu
          have y0 := sX.c 0 _ rfl
          have y1 := sX.c 1 _ rfl
          have y2 := sX.c 2 _ rfl
          try simp only [List.getElem_toArray, List.getElem_cons_succ, List.getElem_cons_zero]
          go_simp
          try with_reducible rfl
        try simp only [Act.put, List.setIfInBounds_toArray, List.set_cons_zero, List.set_cons_succ]
        refine Stg.wpAnyL_start (n' := 11) (l' := #[true, true, true, true, true, true, false, false, false, false, false, false, false, false, false, false, false]) (by kernel_rfl) (by kernel_rfl) ?_
        refine Stg.wpAnyL_free (i := 8) (v := ?_) 0 rfl (by kernel_rfl) (by kernel_rfl) (by kernel_rfl) (by kernel_rfl) (by kernel_rfl) (fun _ _ _ h => h) (Or.inl ⟨by kernel_rfl, ?_⟩) (by assumption) ?_
        rotate_left
        · intro u _
          try simp only [List.getElem_toArray, List.getElem_cons_succ, List.getElem_cons_zero]
          go_simp
          try with_reducible rfl
        try simp only [Act.put, List.setIfInBounds_toArray, List.set_cons_zero, List.set_cons_succ]
        refine Stg.wpAnyL_free (i := 9) (v := ?_) 0 rfl (by kernel_rfl) (by kernel_rfl) (by kernel_rfl) (by kernel_rfl) (by kernel_rfl) (fun _ _ _ h => h) (Or.inl ⟨by kernel_rfl, ?_⟩) (by assumption) ?_
        rotate_left
        · intro u _
          try simp only [List.getElem_toArray, List.getElem_cons_succ, List.getElem_cons_zero]
          go_simp
          try with_reducible rfl
        try simp only [Act.put, List.setIfInBounds_toArray, List.set_cons_zero, List.set_cons_succ]
        refine Stg.wpAnyL_free (i := 10) (v := ?_) 0 rfl (by kernel_rfl) (by kernel_rfl) (by kernel_rfl) (by kernel_rfl) (by kernel_rfl) (fun _ _ _ h => h) (Or.inl ⟨by kernel_rfl, ?_⟩) (by assumption) ?_
        rotate_left
        · intro u _
          try simp only [List.getElem_toArray, List.getElem_cons_succ, List.getElem_cons_zero]
          go_simp
          try with_reducible rfl
        try simp only [Act.put, List.setIfInBounds_toArray, List.set_cons_zero, List.set_cons_succ]
        refine Stg.wpAnyL_start (n' := 8) (l' := #[true, true, true, true, true, true, false, false, true, true, true, false, false, false, false, false, false]) (by kernel_rfl) (by kernel_rfl) ?_
        refine Stg.wpAnyL_take (i := 11) (v := ?_) [12, 14, 15, 16] 0 rfl (by kernel_rfl) (by kernel_rfl) (by kernel_rfl) (by kernel_rfl) (by kernel_rfl) (fun _ _ _ h => h) (Or.inl ⟨by kernel_rfl, ?_⟩) (by assumption) ?_
        rotate_left
        · intro u hSu
          obtain ⟨sB, sX⟩ := hSu
          have y0 := sX.c 0 _ rfl
          have y1 := sX.c 1 _ rfl
          have y2 := sX.c 2 _ rfl
          try simp only [List.getElem_toArray, List.getElem_cons_succ, List.getElem_cons_zero]
          go_simp
          try with_reducible rfl
        try simp only [Act.put, List.setIfInBounds_toArray, List.set_cons_zero, List.set_cons_succ]
        refine Stg.wpAnyL_free (i := 12) (v := ?_) 0 rfl (by kernel_rfl) (by kernel_rfl) (by kernel_rfl) (by kernel_rfl) (by kernel_rfl) (fun _ _ _ h => h) (Or.inl ⟨by kernel_rfl, ?_⟩) (by assumption) ?_
        rotate_left
        · intro u _
          try simp only [List.getElem_toArray, List.getElem_cons_succ, List.getElem_cons_zero]
          go_simp
          try with_reducible rfl
        try simp only [Act.put, List.setIfInBounds_toArray, List.set_cons_zero, List.set_cons_succ]
        refine Stg.wpAnyL_one (i := 6) 0 rfl (by kernel_rfl) (by kernel_rfl) (fun K hK => ?_)
        try simp only [List.getElem_toArray, List.getElem_cons_succ, List.getElem_cons_zero]
        go_simp
        refine (hcp.out _ (hHeld).1).mono ?_
        rintro e w6 ⟨a6, c6, rfl, hL6, hF6, hb1⟩
        refine hK.out _ _ ?_ (fun hHeld1 => ?_)
        · exact ⟨bNext (hHeld).1 hb1 (Nat.le_refl _), (hHeld).2.bel hb1⟩
        clear hK K
        try simp only [Act.put, List.setIfInBounds_toArray, List.set_cons_zero, List.set_cons_succ]
        refine Stg.wpAnyL_start (n' := 5) (l' := #[true, true, true, true, true, true, true, false, true, true, true, true, true, false, false, false, false]) (by kernel_rfl) (by kernel_rfl) ?_
        refine Stg.wpAnyL_free (i := 7) (v := ?_) 0 rfl (by kernel_rfl) (by kernel_rfl) (by kernel_rfl) (by kernel_rfl) (by kernel_rfl) (fun _ _ _ h => h) (Or.inl ⟨by kernel_rfl, ?_⟩) (by assumption) ?_
        rotate_left
        · intro u _
          try simp only [List.getElem_toArray, List.getElem_cons_succ, List.getElem_cons_zero]
          go_simp
          try with_reducible rfl
        try simp only [Act.put, List.setIfInBounds_toArray, List.set_cons_zero, List.set_cons_succ]
        refine Stg.wpAnyL_one (i := 13) 0 rfl (by kernel_rfl) (by kernel_rfl) (fun K hK => ?_)
        have hd := (Below.refl w4.heap.size w4).drew
        have hbb := hd.trans (hb1.mono (by simp))
        have rs6 := kS4.out.bel hbb
        have r0 := rs6.c 0 _ rfl
        have r1 := rs6.c 1 _ rfl
        have r2 := rs6.c 2 _ rfl
        have rf := rs6.f 0
        have rf1 := rs6.f 1
        have rf2 := rs6.f 2
        have rs7 := blk_set3 rs6 (.int .i64 b) (.int .i64 t) (.slice a6 n c6)
        have s0 := Lib.hid (rs7.c 0 _ rfl)
        have s1 := Lib.hid (rs7.c 1 _ rfl)
        have s2 := Lib.hid (rs7.c 2 _ rfl)
        have hFF := hF6.mono (show w.heap.size + 2 ≤ w4.drew.heap.size by simp; omega)
        have hL7 := Lib.hid (hL6.set3 hFF (show w.heap.size + 1 < w.heap.size + 2 by omega) rs6 (.int .i64 b) (.int .i64 t) (.slice a6 n c6))
        have hB7 := Lib.hid (below_set3 (bNext kB4.out hbb (Nat.le_refl _)) (show w.heap.size ≤ w.heap.size + 1 by omega) (.int .i64 b) (.int .i64 t) (.slice a6 n c6))
        clear hd hbb rs6 rs7 hFF hL6 hF6
        try simp only [List.getElem_toArray, List.getElem_cons_succ, List.getElem_cons_zero]
        go_simp
        refine hK.out _ _ ?_ (fun hHeld2 => ?_)
        · exact ⟨below_set3 (hHeld1).1 (by omega) _ _ _, blk_oth3 (hHeld1).2 (by omega) _ _ _⟩
        clear hK K
        try simp only [Act.put, List.setIfInBounds_toArray, List.set_cons_zero, List.set_cons_succ]
        refine Stg.wpAnyL_free (i := 14) (v := ?_) 0 rfl (by kernel_rfl) (by kernel_rfl) (by kernel_rfl) (by kernel_rfl) (by kernel_rfl) (fun _ _ _ h => h) (Or.inl ⟨by kernel_rfl, ?_⟩) (by assumption) ?_
        rotate_left
        · intro u _
          try simp only [List.getElem_toArray, List.getElem_cons_succ, List.getElem_cons_zero]
          go_simp
          try with_reducible rfl
        try simp only [Act.put, List.setIfInBounds_toArray, List.set_cons_zero, List.set_cons_succ]
        refine Stg.wpAnyL_start (n' := 2) (l' := #[true, true, true, true, true, true, true, true, true, true, true, true, true, true, true, false, false]) (by kernel_rfl) (by kernel_rfl) ?_
        refine Stg.wpAnyL_free (i := 15) (v := ?_) 0 rfl (by kernel_rfl) (by kernel_rfl) (by kernel_rfl) (by kernel_rfl) (by kernel_rfl) (fun _ _ _ h => h) (Or.inl ⟨by kernel_rfl, ?_⟩) (by assumption) ?_
        rotate_left
        · intro u _
          try simp only [List.getElem_toArray, List.getElem_cons_succ, List.getElem_cons_zero]
          go_simp
          try with_reducible rfl
        try simp only [Act.put, List.setIfInBounds_toArray, List.set_cons_zero, List.set_cons_succ]
        refine Stg.wpAnyL_free (i := 16) (v := ?_) 0 rfl (by kernel_rfl) (by kernel_rfl) (by kernel_rfl) (by kernel_rfl) (by kernel_rfl) (fun _ _ _ h => h) (Or.inl ⟨by kernel_rfl, ?_⟩) (by assumption) ?_
        rotate_left
        · intro u _
          try simp only [List.getElem_toArray, List.getElem_cons_succ, List.getElem_cons_zero]
          go_simp
          try with_reducible rfl
        try simp only [Act.put, List.setIfInBounds_toArray, List.set_cons_zero, List.set_cons_succ]
        refine Stg.wpAnyL_done (by kernel_rfl) ?_ _
        try simp only [List.getElem_toArray, List.getElem_cons_succ, List.getElem_cons_zero]
        try simp only [Act.put, List.setIfInBounds_toArray, List.set_cons_zero, List.set_cons_succ]
        refine NoPanic.normal ?_
        go_wp2_with fail
        refine bodyPost_ret (v := .tuple #[.agg #[.int .i64 b, .int .i64 t, .slice a6 n c6], .int .i64 (mx (i - 1) b), .bool false, .int .i64 0]) (by simp [results, Try.results11, go_sem, s0.out, s1.out, s2.out]) rfl ?_
        rw [hm.out, mx_eq]
        exact ⟨_, _, _, rfl, hL7.out, hB7.out⟩
  case rest =>
    obtain ⟨k0, M, aM, mM, cM, rfl, rfl, rfl, hM, hk0, hM16, hMs, hm, kX, kS, kB⟩ := hcut
    obtain ⟨w5, rfl⟩ : ∃ wo : World, wo = wc := ⟨_, rfl⟩
    obtain ⟨kq, hkq⟩ : ∃ kq, matchN (l.drop k0) M = kq := ⟨_, rfl⟩
    have hKin := matchN_in (l.drop k0) M
    have hKat := matchN_at (l.drop k0) M
    have hKle := matchN_le (l.drop k0) M
    have hput : putL l M k0 = if kq < M.length then l.take (k0 + kq) ++ M.drop kq else l := by unfold putL; rw [hkq]
    rw [hkq] at hKin hKat hKle
    have hMl := hM.len
    have hml16 : mM ≤ 16 := by omega
    have hmlI : (mM : Int) ≤ 16 := by omega
    have hdl : (l.drop k0).length = n - k0 := by have := hnl.out; simp; omega
    have hKn : k0 + kq ≤ n := by omega
    have hKm : kq ≤ mM := by omega
    have p2 := kX.c 2 _ rfl
    have p0 := kX.c 0 _ rfl
    have p1 := kX.c 1 _ rfl
    have hkk : b + (k0 : Int) - b = (k0 : Int) := by omega
    have hk0I : (k0 : Int) ≤ 4096 := by omega
    have hwM := Lib.hid (show Wfl M from fun y hy => hw2 y (hMs y hy))
    have hsM := Lib.hid (show Sml M from ⟨by omega, fun y hy => hsm2.out.2 y (hMs y hy)⟩)
    obtain ⟨es1, hE1, hH1⟩ := H.out
    replace hE1 := Lib.hid hE1
    replace hH1 := Lib.hid hH1
    have HM := Lib.hid hM
    obtain ⟨esM, hEM, hHM⟩ := hM
    replace hEM := Lib.hid hEM
    replace hHM := Lib.hid hHM
    replace hm := Lib.hid hm
    replace kX := Lib.hid kX
    replace kS := Lib.hid kS
    replace kB := Lib.hid kB
    replace hput := Lib.hid hput
    replace hKin := Lib.hid hKin
    replace hKat := Lib.hid hKat
    replace hMl := Lib.hid hMl
    replace hdl := Lib.hid hdl
    have hKn' := Lib.hid hKn
    have hKm' := Lib.hid hKm
    clear hMs hkq hKle hM16 kX3 kS3 kB3 hlw hcp htm
    go_upto_block 0 with fail
    go_cut [18] from 114 to 144 (fun s18 wx => PutF w5 kq s18 wx)
    case first =>
      go_wp2_with fail
      go_loopw [18] (fun s18 wr => ∃ j : Nat, j ≤ kq ∧ s18 = .int .i64 (j : Nat) ∧ Below w5.heap.size w5 wr) (fun s18 _ => kq - (intOf s18).toNat)
      case atStart => exact ⟨0, Nat.zero_le _, rfl, Below.refl _ _⟩
      case round =>
        obtain ⟨j, hj, rfl, hBj⟩ := hrel
        have y2 := cellB hBj p2
        obtain ⟨kk, hkj⟩ : ∃ kk, k0 + j = kk := ⟨_, rfl⟩
        have hkI : (k0 : Int) + (j : Int) = (kk : Int) := by omega
        have hwk : IntKind.i64.wrap (kk : Int) = (kk : Int) := IntWalk.i64_in _ (by omega)
        have hjn : kk ≤ n := by omega
        by_cases hjK : j < kq
        · obtain ⟨x, y, hx, hy, hxy⟩ := hKin.out j hjK
          have hx' : l[kk]? = some x := by rw [List.getElem?_drop] at hx; rw [← hkj]; exact hx
          obtain ⟨g, o, q, rfl, hg, hq, hhas⟩ := (H.out.bel (bNext kB.out hBj (Nat.le_refl _))).ent hx'
          obtain ⟨g', o', q', rfl, hg', hq', hhas'⟩ := (HM.out.bel hBj).ent hy
          have x0 := hq.1
          have z0 := hq'.1
          rw [hhas.t, hxy] at x0
          rw [hhas'.t] at z0
          have e1 : j < mM := by omega
          have e1I : (j : Int) < (mM : Int) := by omega
          have e2 : kk < n := by omega
          have e2I : (kk : Int) < (n : Int) := by omega
          have hB2 := Lib.hid (bNext hBj (Below.refl wr.heap.size wr).drew (Nat.le_refl _))
          have hjK' := Lib.hid hjK
          have d1 : decide ((j : Int) < (mM : Int)) = true := decide_eq_true e1I
          have d2 : decide ((kk : Int) < (n : Int)) = true := decide_eq_true e2I
          replace hBj := Lib.hid hBj
          clear hx hy hx' hq hq' hhas hhas' hxy hjK hKn hKm hkj
          go_upto_region 19 with fail
          refine wp_region_noPanic ?_
          refine Stg.wp_region_L [] (Bs.SB wr) (by kernel_rfl) (fun _ => (Below.refl _ _).drew) (fun hHeld => ?_)
          refine Stg.wpAnyL_start (n' := 29) (l' := #[false, false, false, false, false, false, false, false, false, false, false, false, false, false, false, false, false, false, false, false, false, false, false, false, false, false, false, false, false]) (by kernel_rfl) (by kernel_rfl) ?_
          refine Stg.wpAnyL_free (i := 0) (v := ?_) 0 rfl (by kernel_rfl) (by kernel_rfl) (by kernel_rfl) (by kernel_rfl) (by kernel_rfl) (fun _ _ _ h => h) (Or.inl ⟨by kernel_rfl, ?_⟩) (by assumption) ?_
          rotate_left
          · intro u _
            try simp only [List.getElem_toArray, List.getElem_cons_succ, List.getElem_cons_zero]
            go_simp
            try with_reducible rfl
          try simp only [Act.put, List.setIfInBounds_toArray, List.set_cons_zero, List.set_cons_succ]
          refine Stg.wpAnyL_free (i := 1) (v := ?_) 0 rfl (by kernel_rfl) (by kernel_rfl) (by kernel_rfl) (by kernel_rfl) (by kernel_rfl) (fun _ _ _ h => h) (Or.inl ⟨by kernel_rfl, ?_⟩) (by assumption) ?_
          rotate_left
          · intro u _
            try simp only [List.getElem_toArray, List.getElem_cons_succ, List.getElem_cons_zero]
            go_simp
            try with_reducible rfl
          try simp only [Act.put, List.setIfInBounds_toArray, List.set_cons_zero, List.set_cons_succ]
          refine Stg.wpAnyL_free (i := 2) (v := ?_) 0 rfl (by kernel_rfl) (by kernel_rfl) (by kernel_rfl) (by kernel_rfl) (by kernel_rfl) (fun _ _ _ h => h) (Or.inl ⟨by kernel_rfl, ?_⟩) (by assumption) ?_
          rotate_left
          · intro u _
            try simp only [List.getElem_toArray, List.getElem_cons_succ, List.getElem_cons_zero]
            go_simp
            try with_reducible rfl
          try simp only [Act.put, List.setIfInBounds_toArray, List.set_cons_zero, List.set_cons_succ]
          refine Stg.wpAnyL_start (n' := 26) (l' := #[true, true, true, false, false, false, false, false, false, false, false, false, false, false, false, false, false, false, false, false, false, false, false, false, false, false, false, false, false]) (by kernel_rfl) (by kernel_rfl) ?_
          refine Stg.wpAnyL_free (i := 3) (v := ?_) 0 rfl (by kernel_rfl) (by kernel_rfl) (by kernel_rfl) (by kernel_rfl) (by kernel_rfl) (fun _ _ _ h => h) (Or.inl ⟨by kernel_rfl, ?_⟩) (by assumption) ?_
          rotate_left
          · intro u _
            try simp only [List.getElem_toArray, List.getElem_cons_succ, List.getElem_cons_zero]
            go_simp
            try with_reducible rfl
          try simp only [Act.put, List.setIfInBounds_toArray, List.set_cons_zero, List.set_cons_succ]
          refine Stg.wpAnyL_free (i := 4) (v := ?_) 0 rfl (by kernel_rfl) (by kernel_rfl) (by kernel_rfl) (by kernel_rfl) (by kernel_rfl) (fun _ _ _ h => h) (Or.inl ⟨by kernel_rfl, ?_⟩) (by assumption) ?_
          rotate_left
          · intro u _
            try simp only [List.getElem_toArray, List.getElem_cons_succ, List.getElem_cons_zero]
            go_simp
            try with_reducible rfl
          try simp only [Act.put, List.setIfInBounds_toArray, List.set_cons_zero, List.set_cons_succ]
          refine Stg.wpAnyL_free (i := 5) (v := ?_) 0 rfl (by kernel_rfl) (by kernel_rfl) (by kernel_rfl) (by kernel_rfl) (by kernel_rfl) (fun _ _ _ h => h) (Or.inl ⟨by kernel_rfl, ?_⟩) (by assumption) ?_
          rotate_left
          · intro u _
            try simp only [List.getElem_toArray, List.getElem_cons_succ, List.getElem_cons_zero]
            go_simp
            try with_reducible rfl
          try simp only [Act.put, List.setIfInBounds_toArray, List.set_cons_zero, List.set_cons_succ]
          refine Stg.wpAnyL_start (n' := 23) (l' := #[true, true, true, true, true, true, false, false, false, false, false, false, false, false, false, false, false, false, false, false, false, false, false, false, false, false, false, false, false]) (by kernel_rfl) (by kernel_rfl) ?_
          refine Stg.wpAnyL_free (i := 6) (v := ?_) 0 rfl (by kernel_rfl) (by kernel_rfl) (by kernel_rfl) (by kernel_rfl) (by kernel_rfl) (fun _ _ _ h => h) (Or.inl ⟨by kernel_rfl, ?_⟩) (by assumption) ?_
          rotate_left
          · intro u _
            try simp only [List.getElem_toArray, List.getElem_cons_succ, List.getElem_cons_zero]
            go_simp
            try with_reducible rfl
          try simp only [Act.put, List.setIfInBounds_toArray, List.set_cons_zero, List.set_cons_succ]
          refine Stg.wpAnyL_free (i := 7) (v := ?_) 0 rfl (by kernel_rfl) (by kernel_rfl) (by kernel_rfl) (by kernel_rfl) (by kernel_rfl) (fun _ _ _ h => h) (Or.inl ⟨by kernel_rfl, ?_⟩) (by assumption) ?_
          rotate_left
          · intro u _
            try simp only [List.getElem_toArray, List.getElem_cons_succ, List.getElem_cons_zero]
            go_simp
            try with_reducible rfl
          try simp only [Act.put, List.setIfInBounds_toArray, List.set_cons_zero, List.set_cons_succ]
          refine Stg.wpAnyL_free (i := 8) (v := ?_) 0 rfl (by kernel_rfl) (by kernel_rfl) (by kernel_rfl) (by kernel_rfl) (by kernel_rfl) (fun _ _ _ h => h) (Or.inl ⟨by kernel_rfl, ?_⟩) (by assumption) ?_
          rotate_left
          · intro u _
            try simp only [List.getElem_toArray, List.getElem_cons_succ, List.getElem_cons_zero]
            go_simp
            try with_reducible rfl
          try simp only [Act.put, List.setIfInBounds_toArray, List.set_cons_zero, List.set_cons_succ]
          refine Stg.wpAnyL_start (n' := 20) (l' := #[true, true, true, true, true, true, true, true, true, false, false, false, false, false, false, false, false, false, false, false, false, false, false, false, false, false, false, false, false]) (by kernel_rfl) (by kernel_rfl) ?_
          refine Stg.wpAnyL_take (i := 9) (v := ?_) [10, 11, 12, 13, 14, 15, 16, 17, 18, 19, 20, 21, 22, 23, 24, 25, 26, 27, 28] 0 rfl (by kernel_rfl) (by kernel_rfl) (by kernel_rfl) (by kernel_rfl) (by kernel_rfl) (fun _ _ _ h => h) (Or.inl ⟨by kernel_rfl, ?_⟩) (by assumption) ?_
          rotate_left
          · intro u hSu
            skip
            have sB := hSu rfl
            have y0 := cellB sB y2
            have y1 := cellB sB x0
            have y2 := cellB sB z0
            try simp only [List.getElem_toArray, List.getElem_cons_succ, List.getElem_cons_zero]
            go_simp
            try with_reducible rfl
          try simp only [Act.put, List.setIfInBounds_toArray, List.set_cons_zero, List.set_cons_succ]
          refine Stg.wpAnyL_free (i := 10) (v := ?_) 0 rfl (by kernel_rfl) (by kernel_rfl) (by kernel_rfl) (by kernel_rfl) (by kernel_rfl) (fun _ _ _ h => h) (Or.inl ⟨by kernel_rfl, ?_⟩) (by assumption) ?_
          rotate_left
          · intro u _
            try simp only [List.getElem_toArray, List.getElem_cons_succ, List.getElem_cons_zero]
            go_simp
            try with_reducible rfl
          try simp only [Act.put, List.setIfInBounds_toArray, List.set_cons_zero, List.set_cons_succ]
          refine Stg.wpAnyL_free (i := 11) (v := ?_) 0 rfl (by kernel_rfl) (by kernel_rfl) (by kernel_rfl) (by kernel_rfl) (by kernel_rfl) (fun _ _ _ h => h) (Or.inl ⟨by kernel_rfl, ?_⟩) (by assumption) ?_
          rotate_left
          · intro u _
            try simp only [List.getElem_toArray, List.getElem_cons_succ, List.getElem_cons_zero]
            go_simp
            try with_reducible rfl
          try simp only [Act.put, List.setIfInBounds_toArray, List.set_cons_zero, List.set_cons_succ]
          refine Stg.wpAnyL_start (n' := 17) (l' := #[true, true, true, true, true, true, true, true, true, true, true, true, false, false, false, false, false, false, false, false, false, false, false, false, false, false, false, false, false]) (by kernel_rfl) (by kernel_rfl) ?_
          refine Stg.wpAnyL_free (i := 12) (v := ?_) 0 rfl (by kernel_rfl) (by kernel_rfl) (by kernel_rfl) (by kernel_rfl) (by kernel_rfl) (fun _ _ _ h => h) (Or.inl ⟨by kernel_rfl, ?_⟩) (by assumption) ?_
          rotate_left
          · intro u _
            try simp only [List.getElem_toArray, List.getElem_cons_succ, List.getElem_cons_zero]
            go_simp
            try with_reducible rfl
          try simp only [Act.put, List.setIfInBounds_toArray, List.set_cons_zero, List.set_cons_succ]
          refine Stg.wpAnyL_free (i := 13) (v := ?_) 0 rfl (by kernel_rfl) (by kernel_rfl) (by kernel_rfl) (by kernel_rfl) (by kernel_rfl) (fun _ _ _ h => h) (Or.inl ⟨by kernel_rfl, ?_⟩) (by assumption) ?_
          rotate_left
          · intro u _
            try simp only [List.getElem_toArray, List.getElem_cons_succ, List.getElem_cons_zero]
            go_simp
            try with_reducible rfl
          try simp only [Act.put, List.setIfInBounds_toArray, List.set_cons_zero, List.set_cons_succ]
          refine Stg.wpAnyL_free (i := 14) (v := ?_) 0 rfl (by kernel_rfl) (by kernel_rfl) (by kernel_rfl) (by kernel_rfl) (by kernel_rfl) (fun _ _ _ h => h) (Or.inl ⟨by kernel_rfl, ?_⟩) (by assumption) ?_
          rotate_left
          · intro u _
            try simp only [List.getElem_toArray, List.getElem_cons_succ, List.getElem_cons_zero]
            go_simp
            try with_reducible rfl
          try simp only [Act.put, List.setIfInBounds_toArray, List.set_cons_zero, List.set_cons_succ]
          refine Stg.wpAnyL_start (n' := 14) (l' := #[true, true, true, true, true, true, true, true, true, true, true, true, true, true, true, false, false, false, false, false, false, false, false, false, false, false, false, false, false]) (by kernel_rfl) (by kernel_rfl) ?_
          refine Stg.wpAnyL_take (i := 15) (v := ?_) [19, 20, 21, 27, 28] 0 rfl (by kernel_rfl) (by kernel_rfl) (by kernel_rfl) (by kernel_rfl) (by kernel_rfl) (fun _ _ _ h => h) (Or.inl ⟨by kernel_rfl, ?_⟩) (by assumption) ?_
          rotate_left
          · intro u hSu
            skip
            have sB := hSu rfl
            have y0 := cellB sB y2
            have y1 := cellB sB x0
            have y2 := cellB sB z0
            try simp only [List.getElem_toArray, List.getElem_cons_succ, List.getElem_cons_zero]
            go_simp
            try with_reducible rfl
          try simp only [Act.put, List.setIfInBounds_toArray, List.set_cons_zero, List.set_cons_succ]
          refine Stg.wpAnyL_free (i := 16) (v := ?_) 0 rfl (by kernel_rfl) (by kernel_rfl) (by kernel_rfl) (by kernel_rfl) (by kernel_rfl) (fun _ _ _ h => h) (Or.inl ⟨by kernel_rfl, ?_⟩) (by assumption) ?_
          rotate_left
          · intro u _
            try simp only [List.getElem_toArray, List.getElem_cons_succ, List.getElem_cons_zero]
            go_simp
            try with_reducible rfl
          try simp only [Act.put, List.setIfInBounds_toArray, List.set_cons_zero, List.set_cons_succ]
          refine Stg.wpAnyL_free (i := 17) (v := ?_) 0 rfl (by kernel_rfl) (by kernel_rfl) (by kernel_rfl) (by kernel_rfl) (by kernel_rfl) (fun _ _ _ h => h) (Or.inl ⟨by kernel_rfl, ?_⟩) (by assumption) ?_
          rotate_left
          · intro u _
            try simp only [List.getElem_toArray, List.getElem_cons_succ, List.getElem_cons_zero]
            go_simp
            try with_reducible rfl
          try simp only [Act.put, List.setIfInBounds_toArray, List.set_cons_zero, List.set_cons_succ]
          refine Stg.wpAnyL_start (n' := 11) (l' := #[true, true, true, true, true, true, true, true, true, true, true, true, true, true, true, true, true, true, false, false, false, false, false, false, false, false, false, false, false]) (by kernel_rfl) (by kernel_rfl) ?_
          refine Stg.wpAnyL_free (i := 18) (v := ?_) 0 rfl (by kernel_rfl) (by kernel_rfl) (by kernel_rfl) (by kernel_rfl) (by kernel_rfl) (fun _ _ _ h => h) (Or.inl ⟨by kernel_rfl, ?_⟩) (by assumption) ?_
          rotate_left
          · intro u _
            try simp only [List.getElem_toArray, List.getElem_cons_succ, List.getElem_cons_zero]
            go_simp
            try with_reducible rfl
          try simp only [Act.put, List.setIfInBounds_toArray, List.set_cons_zero, List.set_cons_succ]
          refine Stg.wpAnyL_free (i := 19) (v := ?_) 0 rfl (by kernel_rfl) (by kernel_rfl) (by kernel_rfl) (by kernel_rfl) (by kernel_rfl) (fun _ _ _ h => h) (Or.inl ⟨by kernel_rfl, ?_⟩) (by assumption) ?_
          rotate_left
          · intro u _
            try simp only [List.getElem_toArray, List.getElem_cons_succ, List.getElem_cons_zero]
            go_simp
            try with_reducible rfl
          try simp only [Act.put, List.setIfInBounds_toArray, List.set_cons_zero, List.set_cons_succ]
          refine Stg.wpAnyL_free (i := 20) (v := ?_) 0 rfl (by kernel_rfl) (by kernel_rfl) (by kernel_rfl) (by kernel_rfl) (by kernel_rfl) (fun _ _ _ h => h) (Or.inl ⟨by kernel_rfl, ?_⟩) (by assumption) ?_
          rotate_left
          · intro u _
            try simp only [List.getElem_toArray, List.getElem_cons_succ, List.getElem_cons_zero]
            go_simp
            try with_reducible rfl
          try simp only [Act.put, List.setIfInBounds_toArray, List.set_cons_zero, List.set_cons_succ]
          refine Stg.wpAnyL_start (n' := 8) (l' := #[true, true, true, true, true, true, true, true, true, true, true, true, true, true, true, true, true, true, true, true, true, false, false, false, false, false, false, false, false]) (by kernel_rfl) (by kernel_rfl) ?_
          refine Stg.wpAnyL_take (i := 21) (v := ?_) [27, 28] 0 rfl (by kernel_rfl) (by kernel_rfl) (by kernel_rfl) (by kernel_rfl) (by kernel_rfl) (fun _ _ _ h => h) (Or.inl ⟨by kernel_rfl, ?_⟩) (by assumption) ?_
          rotate_left
          · intro u hSu
            skip
            have sB := hSu rfl
            have y0 := cellB sB y2
            have y1 := cellB sB x0
            have y2 := cellB sB z0
            try simp only [List.getElem_toArray, List.getElem_cons_succ, List.getElem_cons_zero]
            go_simp
            try with_reducible rfl
          try simp only [Act.put, List.setIfInBounds_toArray, List.set_cons_zero, List.set_cons_succ]
          refine Stg.wpAnyL_free (i := 22) (v := ?_) 0 rfl (by kernel_rfl) (by kernel_rfl) (by kernel_rfl) (by kernel_rfl) (by kernel_rfl) (fun _ _ _ h => h) (Or.inl ⟨by kernel_rfl, ?_⟩) (by assumption) ?_
          rotate_left
          · intro u _
            try simp only [List.getElem_toArray, List.getElem_cons_succ, List.getElem_cons_zero]
            go_simp
            try with_reducible rfl
          try simp only [Act.put, List.setIfInBounds_toArray, List.set_cons_zero, List.set_cons_succ]
          refine Stg.wpAnyL_free (i := 23) (v := ?_) 0 rfl (by kernel_rfl) (by kernel_rfl) (by kernel_rfl) (by kernel_rfl) (by kernel_rfl) (fun _ _ _ h => h) (Or.inl ⟨by kernel_rfl, ?_⟩) (by assumption) ?_
          rotate_left
          · intro u _
            try simp only [List.getElem_toArray, List.getElem_cons_succ, List.getElem_cons_zero]
            go_simp
            try with_reducible rfl
          try simp only [Act.put, List.setIfInBounds_toArray, List.set_cons_zero, List.set_cons_succ]
          refine Stg.wpAnyL_start (n' := 5) (l' := #[true, true, true, true, true, true, true, true, true, true, true, true, true, true, true, true, true, true, true, true, true, true, true, true, false, false, false, false, false]) (by kernel_rfl) (by kernel_rfl) ?_
          refine Stg.wpAnyL_free (i := 24) (v := ?_) 0 rfl (by kernel_rfl) (by kernel_rfl) (by kernel_rfl) (by kernel_rfl) (by kernel_rfl) (fun _ _ _ h => h) (Or.inl ⟨by kernel_rfl, ?_⟩) (by assumption) ?_
          rotate_left
          · intro u _
            try simp only [List.getElem_toArray, List.getElem_cons_succ, List.getElem_cons_zero]
            go_simp
            try with_reducible rfl
          try simp only [Act.put, List.setIfInBounds_toArray, List.set_cons_zero, List.set_cons_succ]
          refine Stg.wpAnyL_free (i := 25) (v := ?_) 0 rfl (by kernel_rfl) (by kernel_rfl) (by kernel_rfl) (by kernel_rfl) (by kernel_rfl) (fun _ _ _ h => h) (Or.inl ⟨by kernel_rfl, ?_⟩) (by assumption) ?_
          rotate_left
          · intro u _
            try simp only [List.getElem_toArray, List.getElem_cons_succ, List.getElem_cons_zero]
            go_simp
            try with_reducible rfl
          try simp only [Act.put, List.setIfInBounds_toArray, List.set_cons_zero, List.set_cons_succ]
          refine Stg.wpAnyL_take (i := 26) (v := ?_) [27, 28] 0 rfl (by kernel_rfl) (by kernel_rfl) (by kernel_rfl) (by kernel_rfl) (by kernel_rfl) (fun _ _ _ h => h) (Or.inl ⟨by kernel_rfl, ?_⟩) (by assumption) ?_
          rotate_left
          · intro u hSu
            skip
            have sB := hSu rfl
            have y0 := cellB sB y2
            have y1 := cellB sB x0
            have y2 := cellB sB z0
            try simp only [List.getElem_toArray, List.getElem_cons_succ, List.getElem_cons_zero]
            go_simp
            try with_reducible rfl
          try simp only [Act.put, List.setIfInBounds_toArray, List.set_cons_zero, List.set_cons_succ]
          refine Stg.wpAnyL_start (n' := 2) (l' := #[true, true, true, true, true, true, true, true, true, true, true, true, true, true, true, true, true, true, true, true, true, true, true, true, true, true, true, false, false]) (by kernel_rfl) (by kernel_rfl) ?_
          refine Stg.wpAnyL_free (i := 27) (v := ?_) 0 rfl (by kernel_rfl) (by kernel_rfl) (by kernel_rfl) (by kernel_rfl) (by kernel_rfl) (fun _ _ _ h => h) (Or.inl ⟨by kernel_rfl, ?_⟩) (by assumption) ?_
          rotate_left
          · intro u _
            try simp only [List.getElem_toArray, List.getElem_cons_succ, List.getElem_cons_zero]
            go_simp
            try with_reducible rfl
          try simp only [Act.put, List.setIfInBounds_toArray, List.set_cons_zero, List.set_cons_succ]
          refine Stg.wpAnyL_free (i := 28) (v := ?_) 0 rfl (by kernel_rfl) (by kernel_rfl) (by kernel_rfl) (by kernel_rfl) (by kernel_rfl) (fun _ _ _ h => h) (Or.inl ⟨by kernel_rfl, ?_⟩) (by assumption) ?_
          rotate_left
          · intro u _
            try simp only [List.getElem_toArray, List.getElem_cons_succ, List.getElem_cons_zero]
            go_simp
            try with_reducible rfl
          try simp only [Act.put, List.setIfInBounds_toArray, List.set_cons_zero, List.set_cons_succ]
          refine Stg.wpAnyL_done (by kernel_rfl) ?_ _
          try simp only [List.getElem_toArray, List.getElem_cons_succ, List.getElem_cons_zero]
          try simp only [Act.put, List.setIfInBounds_toArray, List.set_cons_zero, List.set_cons_succ]
          refine NoPanic.normal ?_
          go_wp2_with fail
          go_roundw
          case rel => exact ⟨j + 1, by have := hjK'.out; omega, by go_num, hB2.out⟩
          case measure => have := hjK'.out; simp [intOf]; omega
        · obtain rfl : j = kq := by omega
          have hP := Lib.hid (show PutF w5 j (.int .i64 (j : Nat)) wr.drew from ⟨rfl, bNext hBj (Below.refl wr.heap.size wr).drew (Nat.le_refl _)⟩)
          by_cases c1 : j = mM
          · have e1I : ¬ (j : Int) < (mM : Int) := by omega
            have d1 : decide ((j : Int) < (mM : Int)) = false := decide_eq_false e1I
            replace hBj := Lib.hid hBj
            replace c1 := Lib.hid c1
            clear hjK hKn hKm hkj
            go_upto_region 19 with fail
            refine wp_region_noPanic ?_
            refine Stg.wp_region_L [] (Bs.SB wr) (by kernel_rfl) (fun _ => (Below.refl _ _).drew) (fun hHeld => ?_)
            refine Stg.wpAnyL_start (n' := 29) (l' := #[false, false, false, false, false, false, false, false, false, false, false, false, false, false, false, false, false, false, false, false, false, false, false, false, false, false, false, false, false]) (by kernel_rfl) (by kernel_rfl) ?_
            refine Stg.wpAnyL_free (i := 0) (v := ?_) 0 rfl (by kernel_rfl) (by kernel_rfl) (by kernel_rfl) (by kernel_rfl) (by kernel_rfl) (fun _ _ _ h => h) (Or.inl ⟨by kernel_rfl, ?_⟩) (by assumption) ?_
            rotate_left
            · intro u _
              try simp only [List.getElem_toArray, List.getElem_cons_succ, List.getElem_cons_zero]
              go_simp
              try with_reducible rfl
            try simp only [Act.put, List.setIfInBounds_toArray, List.set_cons_zero, List.set_cons_succ]
            refine Stg.wpAnyL_free (i := 1) (v := ?_) 0 rfl (by kernel_rfl) (by kernel_rfl) (by kernel_rfl) (by kernel_rfl) (by kernel_rfl) (fun _ _ _ h => h) (Or.inl ⟨by kernel_rfl, ?_⟩) (by assumption) ?_
            rotate_left
            · intro u _
              try simp only [List.getElem_toArray, List.getElem_cons_succ, List.getElem_cons_zero]
              go_simp
              try with_reducible rfl
            try simp only [Act.put, List.setIfInBounds_toArray, List.set_cons_zero, List.set_cons_succ]
            refine Stg.wpAnyL_free (i := 2) (v := ?_) 0 rfl (by kernel_rfl) (by kernel_rfl) (by kernel_rfl) (by kernel_rfl) (by kernel_rfl) (fun _ _ _ h => h) (Or.inl ⟨by kernel_rfl, ?_⟩) (by assumption) ?_
            rotate_left
            · intro u _
              try simp only [List.getElem_toArray, List.getElem_cons_succ, List.getElem_cons_zero]
              go_simp
              try with_reducible rfl
            try simp only [Act.put, List.setIfInBounds_toArray, List.set_cons_zero, List.set_cons_succ]
            refine Stg.wpAnyL_start (n' := 26) (l' := #[true, true, true, false, false, false, false, false, false, false, false, false, false, false, false, false, false, false, false, false, false, false, false, false, false, false, false, false, false]) (by kernel_rfl) (by kernel_rfl) ?_
            refine Stg.wpAnyL_free (i := 3) (v := ?_) 0 rfl (by kernel_rfl) (by kernel_rfl) (by kernel_rfl) (by kernel_rfl) (by kernel_rfl) (fun _ _ _ h => h) (Or.inl ⟨by kernel_rfl, ?_⟩) (by assumption) ?_
            rotate_left
            · intro u _
              try simp only [List.getElem_toArray, List.getElem_cons_succ, List.getElem_cons_zero]
              go_simp
              try with_reducible rfl
            try simp only [Act.put, List.setIfInBounds_toArray, List.set_cons_zero, List.set_cons_succ]
            refine Stg.wpAnyL_free (i := 4) (v := ?_) 0 rfl (by kernel_rfl) (by kernel_rfl) (by kernel_rfl) (by kernel_rfl) (by kernel_rfl) (fun _ _ _ h => h) (Or.inl ⟨by kernel_rfl, ?_⟩) (by assumption) ?_
            rotate_left
            · intro u _
              try simp only [List.getElem_toArray, List.getElem_cons_succ, List.getElem_cons_zero]
              go_simp
              try with_reducible rfl
            try simp only [Act.put, List.setIfInBounds_toArray, List.set_cons_zero, List.set_cons_succ]
            refine Stg.wpAnyL_free (i := 5) (v := undef) 0 rfl (by kernel_rfl) (by kernel_rfl) (by kernel_rfl) (by kernel_rfl) (by kernel_rfl) (fun _ _ _ h => h) (Or.inr ⟨by kernel_rfl, rfl⟩) (by assumption) ?_
            try simp only [Act.put, List.setIfInBounds_toArray, List.set_cons_zero, List.set_cons_succ]
            refine Stg.wpAnyL_start (n' := 23) (l' := #[true, true, true, true, true, true, false, false, false, false, false, false, false, false, false, false, false, false, false, false, false, false, false, false, false, false, false, false, false]) (by kernel_rfl) (by kernel_rfl) ?_
            refine Stg.wpAnyL_free (i := 6) (v := undef) 0 rfl (by kernel_rfl) (by kernel_rfl) (by kernel_rfl) (by kernel_rfl) (by kernel_rfl) (fun _ _ _ h => h) (Or.inr ⟨by kernel_rfl, rfl⟩) (by assumption) ?_
            try simp only [Act.put, List.setIfInBounds_toArray, List.set_cons_zero, List.set_cons_succ]
            refine Stg.wpAnyL_free (i := 7) (v := undef) 0 rfl (by kernel_rfl) (by kernel_rfl) (by kernel_rfl) (by kernel_rfl) (by kernel_rfl) (fun _ _ _ h => h) (Or.inr ⟨by kernel_rfl, rfl⟩) (by assumption) ?_
            try simp only [Act.put, List.setIfInBounds_toArray, List.set_cons_zero, List.set_cons_succ]
            refine Stg.wpAnyL_free (i := 8) (v := undef) 0 rfl (by kernel_rfl) (by kernel_rfl) (by kernel_rfl) (by kernel_rfl) (by kernel_rfl) (fun _ _ _ h => h) (Or.inr ⟨by kernel_rfl, rfl⟩) (by assumption) ?_
            try simp only [Act.put, List.setIfInBounds_toArray, List.set_cons_zero, List.set_cons_succ]
            refine Stg.wpAnyL_start (n' := 20) (l' := #[true, true, true, true, true, true, true, true, true, false, false, false, false, false, false, false, false, false, false, false, false, false, false, false, false, false, false, false, false]) (by kernel_rfl) (by kernel_rfl) ?_
            refine Stg.wpAnyL_free (i := 9) (v := undef) 0 rfl (by kernel_rfl) (by kernel_rfl) (by kernel_rfl) (by kernel_rfl) (by kernel_rfl) (fun _ _ _ h => h) (Or.inr ⟨by kernel_rfl, rfl⟩) (by assumption) ?_
            try simp only [Act.put, List.setIfInBounds_toArray, List.set_cons_zero, List.set_cons_succ]
            refine Stg.wpAnyL_free (i := 10) (v := undef) 0 rfl (by kernel_rfl) (by kernel_rfl) (by kernel_rfl) (by kernel_rfl) (by kernel_rfl) (fun _ _ _ h => h) (Or.inr ⟨by kernel_rfl, rfl⟩) (by assumption) ?_
            try simp only [Act.put, List.setIfInBounds_toArray, List.set_cons_zero, List.set_cons_succ]
            refine Stg.wpAnyL_free (i := 11) (v := undef) 0 rfl (by kernel_rfl) (by kernel_rfl) (by kernel_rfl) (by kernel_rfl) (by kernel_rfl) (fun _ _ _ h => h) (Or.inr ⟨by kernel_rfl, rfl⟩) (by assumption) ?_
            try simp only [Act.put, List.setIfInBounds_toArray, List.set_cons_zero, List.set_cons_succ]
            refine Stg.wpAnyL_start (n' := 17) (l' := #[true, true, true, true, true, true, true, true, true, true, true, true, false, false, false, false, false, false, false, false, false, false, false, false, false, false, false, false, false]) (by kernel_rfl) (by kernel_rfl) ?_
            refine Stg.wpAnyL_free (i := 12) (v := ?_) 0 rfl (by kernel_rfl) (by kernel_rfl) (by kernel_rfl) (by kernel_rfl) (by kernel_rfl) (fun _ _ _ h => h) (Or.inl ⟨by kernel_rfl, ?_⟩) (by assumption) ?_
            rotate_left
            · intro u _
              try simp only [List.getElem_toArray, List.getElem_cons_succ, List.getElem_cons_zero]
              go_simp
              try with_reducible rfl
            try simp only [Act.put, List.setIfInBounds_toArray, List.set_cons_zero, List.set_cons_succ]
            refine Stg.wpAnyL_free (i := 13) (v := ?_) 0 rfl (by kernel_rfl) (by kernel_rfl) (by kernel_rfl) (by kernel_rfl) (by kernel_rfl) (fun _ _ _ h => h) (Or.inl ⟨by kernel_rfl, ?_⟩) (by assumption) ?_
            rotate_left
            · intro u _
              try simp only [List.getElem_toArray, List.getElem_cons_succ, List.getElem_cons_zero]
              go_simp
              try with_reducible rfl
            try simp only [Act.put, List.setIfInBounds_toArray, List.set_cons_zero, List.set_cons_succ]
            refine Stg.wpAnyL_free (i := 14) (v := undef) 0 rfl (by kernel_rfl) (by kernel_rfl) (by kernel_rfl) (by kernel_rfl) (by kernel_rfl) (fun _ _ _ h => h) (Or.inr ⟨by kernel_rfl, rfl⟩) (by assumption) ?_
            try simp only [Act.put, List.setIfInBounds_toArray, List.set_cons_zero, List.set_cons_succ]
            refine Stg.wpAnyL_start (n' := 14) (l' := #[true, true, true, true, true, true, true, true, true, true, true, true, true, true, true, false, false, false, false, false, false, false, false, false, false, false, false, false, false]) (by kernel_rfl) (by kernel_rfl) ?_
            refine Stg.wpAnyL_free (i := 15) (v := undef) 0 rfl (by kernel_rfl) (by kernel_rfl) (by kernel_rfl) (by kernel_rfl) (by kernel_rfl) (fun _ _ _ h => h) (Or.inr ⟨by kernel_rfl, rfl⟩) (by assumption) ?_
            try simp only [Act.put, List.setIfInBounds_toArray, List.set_cons_zero, List.set_cons_succ]
            refine Stg.wpAnyL_free (i := 16) (v := undef) 0 rfl (by kernel_rfl) (by kernel_rfl) (by kernel_rfl) (by kernel_rfl) (by kernel_rfl) (fun _ _ _ h => h) (Or.inr ⟨by kernel_rfl, rfl⟩) (by assumption) ?_
            try simp only [Act.put, List.setIfInBounds_toArray, List.set_cons_zero, List.set_cons_succ]
            refine Stg.wpAnyL_free (i := 17) (v := undef) 0 rfl (by kernel_rfl) (by kernel_rfl) (by kernel_rfl) (by kernel_rfl) (by kernel_rfl) (fun _ _ _ h => h) (Or.inr ⟨by kernel_rfl, rfl⟩) (by assumption) ?_
            try simp only [Act.put, List.setIfInBounds_toArray, List.set_cons_zero, List.set_cons_succ]
            refine Stg.wpAnyL_start (n' := 11) (l' := #[true, true, true, true, true, true, true, true, true, true, true, true, true, true, true, true, true, true, false, false, false, false, false, false, false, false, false, false, false]) (by kernel_rfl) (by kernel_rfl) ?_
            refine Stg.wpAnyL_free (i := 18) (v := undef) 0 rfl (by kernel_rfl) (by kernel_rfl) (by kernel_rfl) (by kernel_rfl) (by kernel_rfl) (fun _ _ _ h => h) (Or.inr ⟨by kernel_rfl, rfl⟩) (by assumption) ?_
            try simp only [Act.put, List.setIfInBounds_toArray, List.set_cons_zero, List.set_cons_succ]
            refine Stg.wpAnyL_free (i := 19) (v := undef) 0 rfl (by kernel_rfl) (by kernel_rfl) (by kernel_rfl) (by kernel_rfl) (by kernel_rfl) (fun _ _ _ h => h) (Or.inr ⟨by kernel_rfl, rfl⟩) (by assumption) ?_
            try simp only [Act.put, List.setIfInBounds_toArray, List.set_cons_zero, List.set_cons_succ]
            refine Stg.wpAnyL_free (i := 20) (v := undef) 0 rfl (by kernel_rfl) (by kernel_rfl) (by kernel_rfl) (by kernel_rfl) (by kernel_rfl) (fun _ _ _ h => h) (Or.inr ⟨by kernel_rfl, rfl⟩) (by assumption) ?_
            try simp only [Act.put, List.setIfInBounds_toArray, List.set_cons_zero, List.set_cons_succ]
            refine Stg.wpAnyL_start (n' := 8) (l' := #[true, true, true, true, true, true, true, true, true, true, true, true, true, true, true, true, true, true, true, true, true, false, false, false, false, false, false, false, false]) (by kernel_rfl) (by kernel_rfl) ?_
            refine Stg.wpAnyL_free (i := 21) (v := undef) 0 rfl (by kernel_rfl) (by kernel_rfl) (by kernel_rfl) (by kernel_rfl) (by kernel_rfl) (fun _ _ _ h => h) (Or.inr ⟨by kernel_rfl, rfl⟩) (by assumption) ?_
            try simp only [Act.put, List.setIfInBounds_toArray, List.set_cons_zero, List.set_cons_succ]
            refine Stg.wpAnyL_free (i := 22) (v := undef) 0 rfl (by kernel_rfl) (by kernel_rfl) (by kernel_rfl) (by kernel_rfl) (by kernel_rfl) (fun _ _ _ h => h) (Or.inr ⟨by kernel_rfl, rfl⟩) (by assumption) ?_
            try simp only [Act.put, List.setIfInBounds_toArray, List.set_cons_zero, List.set_cons_succ]
            refine Stg.wpAnyL_free (i := 23) (v := undef) 0 rfl (by kernel_rfl) (by kernel_rfl) (by kernel_rfl) (by kernel_rfl) (by kernel_rfl) (fun _ _ _ h => h) (Or.inr ⟨by kernel_rfl, rfl⟩) (by assumption) ?_
            try simp only [Act.put, List.setIfInBounds_toArray, List.set_cons_zero, List.set_cons_succ]
            refine Stg.wpAnyL_start (n' := 5) (l' := #[true, true, true, true, true, true, true, true, true, true, true, true, true, true, true, true, true, true, true, true, true, true, true, true, false, false, false, false, false]) (by kernel_rfl) (by kernel_rfl) ?_
            refine Stg.wpAnyL_free (i := 24) (v := undef) 0 rfl (by kernel_rfl) (by kernel_rfl) (by kernel_rfl) (by kernel_rfl) (by kernel_rfl) (fun _ _ _ h => h) (Or.inr ⟨by kernel_rfl, rfl⟩) (by assumption) ?_
            try simp only [Act.put, List.setIfInBounds_toArray, List.set_cons_zero, List.set_cons_succ]
            refine Stg.wpAnyL_free (i := 25) (v := undef) 0 rfl (by kernel_rfl) (by kernel_rfl) (by kernel_rfl) (by kernel_rfl) (by kernel_rfl) (fun _ _ _ h => h) (Or.inr ⟨by kernel_rfl, rfl⟩) (by assumption) ?_
            try simp only [Act.put, List.setIfInBounds_toArray, List.set_cons_zero, List.set_cons_succ]
            refine Stg.wpAnyL_free (i := 26) (v := undef) 0 rfl (by kernel_rfl) (by kernel_rfl) (by kernel_rfl) (by kernel_rfl) (by kernel_rfl) (fun _ _ _ h => h) (Or.inr ⟨by kernel_rfl, rfl⟩) (by assumption) ?_
            try simp only [Act.put, List.setIfInBounds_toArray, List.set_cons_zero, List.set_cons_succ]
            refine Stg.wpAnyL_start (n' := 2) (l' := #[true, true, true, true, true, true, true, true, true, true, true, true, true, true, true, true, true, true, true, true, true, true, true, true, true, true, true, false, false]) (by kernel_rfl) (by kernel_rfl) ?_
            refine Stg.wpAnyL_free (i := 27) (v := undef) 0 rfl (by kernel_rfl) (by kernel_rfl) (by kernel_rfl) (by kernel_rfl) (by kernel_rfl) (fun _ _ _ h => h) (Or.inr ⟨by kernel_rfl, rfl⟩) (by assumption) ?_
            try simp only [Act.put, List.setIfInBounds_toArray, List.set_cons_zero, List.set_cons_succ]
            refine Stg.wpAnyL_free (i := 28) (v := ?_) 0 rfl (by kernel_rfl) (by kernel_rfl) (by kernel_rfl) (by kernel_rfl) (by kernel_rfl) (fun _ _ _ h => h) (Or.inl ⟨by kernel_rfl, ?_⟩) (by assumption) ?_
            rotate_left
            · intro u _
              try simp only [List.getElem_toArray, List.getElem_cons_succ, List.getElem_cons_zero]
              go_simp
              try with_reducible rfl
            try simp only [Act.put, List.setIfInBounds_toArray, List.set_cons_zero, List.set_cons_succ]
            refine Stg.wpAnyL_done (by kernel_rfl) ?_ _
            try simp only [List.getElem_toArray, List.getElem_cons_succ, List.getElem_cons_zero]
            try simp only [Act.put, List.setIfInBounds_toArray, List.set_cons_zero, List.set_cons_succ]
            refine NoPanic.normal ?_
            go_wp2_with fail
            go_meet
            exact hP.out
          have e1 : j < mM := by omega
          have e1I : (j : Int) < (mM : Int) := by omega
          have d1 : decide ((j : Int) < (mM : Int)) = true := decide_eq_true e1I
          by_cases c2 : kk = n
          · have e2I : ¬ (kk : Int) < (n : Int) := by omega
            have d2 : decide ((kk : Int) < (n : Int)) = false := decide_eq_false e2I
            replace hBj := Lib.hid hBj
            replace c2 := Lib.hid c2
            clear hjK hKn hKm hkj c1
            go_upto_region 19 with fail
            refine wp_region_noPanic ?_
            refine Stg.wp_region_L [] (Bs.SB wr) (by kernel_rfl) (fun _ => (Below.refl _ _).drew) (fun hHeld => ?_)
            refine Stg.wpAnyL_start (n' := 29) (l' := #[false, false, false, false, false, false, false, false, false, false, false, false, false, false, false, false, false, false, false, false, false, false, false, false, false, false, false, false, false]) (by kernel_rfl) (by kernel_rfl) ?_
            refine Stg.wpAnyL_free (i := 0) (v := ?_) 0 rfl (by kernel_rfl) (by kernel_rfl) (by kernel_rfl) (by kernel_rfl) (by kernel_rfl) (fun _ _ _ h => h) (Or.inl ⟨by kernel_rfl, ?_⟩) (by assumption) ?_
            rotate_left
            · intro u _
              try simp only [List.getElem_toArray, List.getElem_cons_succ, List.getElem_cons_zero]
              go_simp
              try with_reducible rfl
            try simp only [Act.put, List.setIfInBounds_toArray, List.set_cons_zero, List.set_cons_succ]
            refine Stg.wpAnyL_free (i := 1) (v := ?_) 0 rfl (by kernel_rfl) (by kernel_rfl) (by kernel_rfl) (by kernel_rfl) (by kernel_rfl) (fun _ _ _ h => h) (Or.inl ⟨by kernel_rfl, ?_⟩) (by assumption) ?_
            rotate_left
            · intro u _
              try simp only [List.getElem_toArray, List.getElem_cons_succ, List.getElem_cons_zero]
              go_simp
              try with_reducible rfl
            try simp only [Act.put, List.setIfInBounds_toArray, List.set_cons_zero, List.set_cons_succ]
            refine Stg.wpAnyL_free (i := 2) (v := ?_) 0 rfl (by kernel_rfl) (by kernel_rfl) (by kernel_rfl) (by kernel_rfl) (by kernel_rfl) (fun _ _ _ h => h) (Or.inl ⟨by kernel_rfl, ?_⟩) (by assumption) ?_
            rotate_left
            · intro u _
              try simp only [List.getElem_toArray, List.getElem_cons_succ, List.getElem_cons_zero]
              go_simp
              try with_reducible rfl
            try simp only [Act.put, List.setIfInBounds_toArray, List.set_cons_zero, List.set_cons_succ]
            refine Stg.wpAnyL_start (n' := 26) (l' := #[true, true, true, false, false, false, false, false, false, false, false, false, false, false, false, false, false, false, false, false, false, false, false, false, false, false, false, false, false]) (by kernel_rfl) (by kernel_rfl) ?_
            refine Stg.wpAnyL_free (i := 3) (v := ?_) 0 rfl (by kernel_rfl) (by kernel_rfl) (by kernel_rfl) (by kernel_rfl) (by kernel_rfl) (fun _ _ _ h => h) (Or.inl ⟨by kernel_rfl, ?_⟩) (by assumption) ?_
            rotate_left
            · intro u _
              try simp only [List.getElem_toArray, List.getElem_cons_succ, List.getElem_cons_zero]
              go_simp
              try with_reducible rfl
            try simp only [Act.put, List.setIfInBounds_toArray, List.set_cons_zero, List.set_cons_succ]
            refine Stg.wpAnyL_free (i := 4) (v := ?_) 0 rfl (by kernel_rfl) (by kernel_rfl) (by kernel_rfl) (by kernel_rfl) (by kernel_rfl) (fun _ _ _ h => h) (Or.inl ⟨by kernel_rfl, ?_⟩) (by assumption) ?_
            rotate_left
            · intro u _
              try simp only [List.getElem_toArray, List.getElem_cons_succ, List.getElem_cons_zero]
              go_simp
              try with_reducible rfl
            try simp only [Act.put, List.setIfInBounds_toArray, List.set_cons_zero, List.set_cons_succ]
            refine Stg.wpAnyL_free (i := 5) (v := ?_) 0 rfl (by kernel_rfl) (by kernel_rfl) (by kernel_rfl) (by kernel_rfl) (by kernel_rfl) (fun _ _ _ h => h) (Or.inl ⟨by kernel_rfl, ?_⟩) (by assumption) ?_
            rotate_left
            · intro u _
              try simp only [List.getElem_toArray, List.getElem_cons_succ, List.getElem_cons_zero]
              go_simp
              try with_reducible rfl
            try simp only [Act.put, List.setIfInBounds_toArray, List.set_cons_zero, List.set_cons_succ]
            refine Stg.wpAnyL_start (n' := 23) (l' := #[true, true, true, true, true, true, false, false, false, false, false, false, false, false, false, false, false, false, false, false, false, false, false, false, false, false, false, false, false]) (by kernel_rfl) (by kernel_rfl) ?_
            refine Stg.wpAnyL_free (i := 6) (v := ?_) 0 rfl (by kernel_rfl) (by kernel_rfl) (by kernel_rfl) (by kernel_rfl) (by kernel_rfl) (fun _ _ _ h => h) (Or.inl ⟨by kernel_rfl, ?_⟩) (by assumption) ?_
            rotate_left
            · intro u _
              try simp only [List.getElem_toArray, List.getElem_cons_succ, List.getElem_cons_zero]
              go_simp
              try with_reducible rfl
            try simp only [Act.put, List.setIfInBounds_toArray, List.set_cons_zero, List.set_cons_succ]
            refine Stg.wpAnyL_free (i := 7) (v := ?_) 0 rfl (by kernel_rfl) (by kernel_rfl) (by kernel_rfl) (by kernel_rfl) (by kernel_rfl) (fun _ _ _ h => h) (Or.inl ⟨by kernel_rfl, ?_⟩) (by assumption) ?_
            rotate_left
            · intro u _
              try simp only [List.getElem_toArray, List.getElem_cons_succ, List.getElem_cons_zero]
              go_simp
              try with_reducible rfl
            try simp only [Act.put, List.setIfInBounds_toArray, List.set_cons_zero, List.set_cons_succ]
            refine Stg.wpAnyL_free (i := 8) (v := ?_) 0 rfl (by kernel_rfl) (by kernel_rfl) (by kernel_rfl) (by kernel_rfl) (by kernel_rfl) (fun _ _ _ h => h) (Or.inl ⟨by kernel_rfl, ?_⟩) (by assumption) ?_
            rotate_left
            · intro u _
              try simp only [List.getElem_toArray, List.getElem_cons_succ, List.getElem_cons_zero]
              go_simp
              try with_reducible rfl
            try simp only [Act.put, List.setIfInBounds_toArray, List.set_cons_zero, List.set_cons_succ]
            refine Stg.wpAnyL_start (n' := 20) (l' := #[true, true, true, true, true, true, true, true, true, false, false, false, false, false, false, false, false, false, false, false, false, false, false, false, false, false, false, false, false]) (by kernel_rfl) (by kernel_rfl) ?_
            refine Stg.wpAnyL_take (i := 9) (v := ?_) [10, 11, 12, 13, 14, 15, 16, 17, 18, 19, 20, 21, 22, 23, 24, 25, 26, 27, 28] 0 rfl (by kernel_rfl) (by kernel_rfl) (by kernel_rfl) (by kernel_rfl) (by kernel_rfl) (fun _ _ _ h => h) (Or.inl ⟨by kernel_rfl, ?_⟩) (by assumption) ?_
            rotate_left
            · intro u hSu
              skip
              have sB := hSu rfl
              have y0 := cellB sB y2
              try simp only [List.getElem_toArray, List.getElem_cons_succ, List.getElem_cons_zero]
              go_simp
              try with_reducible rfl
            try simp only [Act.put, List.setIfInBounds_toArray, List.set_cons_zero, List.set_cons_succ]
            refine Stg.wpAnyL_free (i := 10) (v := ?_) 0 rfl (by kernel_rfl) (by kernel_rfl) (by kernel_rfl) (by kernel_rfl) (by kernel_rfl) (fun _ _ _ h => h) (Or.inl ⟨by kernel_rfl, ?_⟩) (by assumption) ?_
            rotate_left
            · intro u _
              try simp only [List.getElem_toArray, List.getElem_cons_succ, List.getElem_cons_zero]
              go_simp
              try with_reducible rfl
            try simp only [Act.put, List.setIfInBounds_toArray, List.set_cons_zero, List.set_cons_succ]
            refine Stg.wpAnyL_free (i := 11) (v := ?_) 0 rfl (by kernel_rfl) (by kernel_rfl) (by kernel_rfl) (by kernel_rfl) (by kernel_rfl) (fun _ _ _ h => h) (Or.inl ⟨by kernel_rfl, ?_⟩) (by assumption) ?_
            rotate_left
            · intro u _
              try simp only [List.getElem_toArray, List.getElem_cons_succ, List.getElem_cons_zero]
              go_simp
              try with_reducible rfl
            try simp only [Act.put, List.setIfInBounds_toArray, List.set_cons_zero, List.set_cons_succ]
            refine Stg.wpAnyL_start (n' := 17) (l' := #[true, true, true, true, true, true, true, true, true, true, true, true, false, false, false, false, false, false, false, false, false, false, false, false, false, false, false, false, false]) (by kernel_rfl) (by kernel_rfl) ?_
            refine Stg.wpAnyL_free (i := 12) (v := ?_) 0 rfl (by kernel_rfl) (by kernel_rfl) (by kernel_rfl) (by kernel_rfl) (by kernel_rfl) (fun _ _ _ h => h) (Or.inl ⟨by kernel_rfl, ?_⟩) (by assumption) ?_
            rotate_left
            · intro u _
              try simp only [List.getElem_toArray, List.getElem_cons_succ, List.getElem_cons_zero]
              go_simp
              try with_reducible rfl
            try simp only [Act.put, List.setIfInBounds_toArray, List.set_cons_zero, List.set_cons_succ]
            refine Stg.wpAnyL_free (i := 13) (v := ?_) 0 rfl (by kernel_rfl) (by kernel_rfl) (by kernel_rfl) (by kernel_rfl) (by kernel_rfl) (fun _ _ _ h => h) (Or.inl ⟨by kernel_rfl, ?_⟩) (by assumption) ?_
            rotate_left
            · intro u _
              try simp only [List.getElem_toArray, List.getElem_cons_succ, List.getElem_cons_zero]
              go_simp
              try with_reducible rfl
            try simp only [Act.put, List.setIfInBounds_toArray, List.set_cons_zero, List.set_cons_succ]
            refine Stg.wpAnyL_free (i := 14) (v := undef) 0 rfl (by kernel_rfl) (by kernel_rfl) (by kernel_rfl) (by kernel_rfl) (by kernel_rfl) (fun _ _ _ h => h) (Or.inr ⟨by kernel_rfl, rfl⟩) (by assumption) ?_
            try simp only [Act.put, List.setIfInBounds_toArray, List.set_cons_zero, List.set_cons_succ]
            refine Stg.wpAnyL_start (n' := 14) (l' := #[true, true, true, true, true, true, true, true, true, true, true, true, true, true, true, false, false, false, false, false, false, false, false, false, false, false, false, false, false]) (by kernel_rfl) (by kernel_rfl) ?_
            refine Stg.wpAnyL_free (i := 15) (v := undef) 0 rfl (by kernel_rfl) (by kernel_rfl) (by kernel_rfl) (by kernel_rfl) (by kernel_rfl) (fun _ _ _ h => h) (Or.inr ⟨by kernel_rfl, rfl⟩) (by assumption) ?_
            try simp only [Act.put, List.setIfInBounds_toArray, List.set_cons_zero, List.set_cons_succ]
            refine Stg.wpAnyL_free (i := 16) (v := undef) 0 rfl (by kernel_rfl) (by kernel_rfl) (by kernel_rfl) (by kernel_rfl) (by kernel_rfl) (fun _ _ _ h => h) (Or.inr ⟨by kernel_rfl, rfl⟩) (by assumption) ?_
            try simp only [Act.put, List.setIfInBounds_toArray, List.set_cons_zero, List.set_cons_succ]
            refine Stg.wpAnyL_free (i := 17) (v := undef) 0 rfl (by kernel_rfl) (by kernel_rfl) (by kernel_rfl) (by kernel_rfl) (by kernel_rfl) (fun _ _ _ h => h) (Or.inr ⟨by kernel_rfl, rfl⟩) (by assumption) ?_
            try simp only [Act.put, List.setIfInBounds_toArray, List.set_cons_zero, List.set_cons_succ]
            refine Stg.wpAnyL_start (n' := 11) (l' := #[true, true, true, true, true, true, true, true, true, true, true, true, true, true, true, true, true, true, false, false, false, false, false, false, false, false, false, false, false]) (by kernel_rfl) (by kernel_rfl) ?_
            refine Stg.wpAnyL_free (i := 18) (v := undef) 0 rfl (by kernel_rfl) (by kernel_rfl) (by kernel_rfl) (by kernel_rfl) (by kernel_rfl) (fun _ _ _ h => h) (Or.inr ⟨by kernel_rfl, rfl⟩) (by assumption) ?_
            try simp only [Act.put, List.setIfInBounds_toArray, List.set_cons_zero, List.set_cons_succ]
            refine Stg.wpAnyL_free (i := 19) (v := undef) 0 rfl (by kernel_rfl) (by kernel_rfl) (by kernel_rfl) (by kernel_rfl) (by kernel_rfl) (fun _ _ _ h => h) (Or.inr ⟨by kernel_rfl, rfl⟩) (by assumption) ?_
            try simp only [Act.put, List.setIfInBounds_toArray, List.set_cons_zero, List.set_cons_succ]
            refine Stg.wpAnyL_free (i := 20) (v := undef) 0 rfl (by kernel_rfl) (by kernel_rfl) (by kernel_rfl) (by kernel_rfl) (by kernel_rfl) (fun _ _ _ h => h) (Or.inr ⟨by kernel_rfl, rfl⟩) (by assumption) ?_
            try simp only [Act.put, List.setIfInBounds_toArray, List.set_cons_zero, List.set_cons_succ]
            refine Stg.wpAnyL_start (n' := 8) (l' := #[true, true, true, true, true, true, true, true, true, true, true, true, true, true, true, true, true, true, true, true, true, false, false, false, false, false, false, false, false]) (by kernel_rfl) (by kernel_rfl) ?_
            refine Stg.wpAnyL_free (i := 21) (v := undef) 0 rfl (by kernel_rfl) (by kernel_rfl) (by kernel_rfl) (by kernel_rfl) (by kernel_rfl) (fun _ _ _ h => h) (Or.inr ⟨by kernel_rfl, rfl⟩) (by assumption) ?_
            try simp only [Act.put, List.setIfInBounds_toArray, List.set_cons_zero, List.set_cons_succ]
            refine Stg.wpAnyL_free (i := 22) (v := undef) 0 rfl (by kernel_rfl) (by kernel_rfl) (by kernel_rfl) (by kernel_rfl) (by kernel_rfl) (fun _ _ _ h => h) (Or.inr ⟨by kernel_rfl, rfl⟩) (by assumption) ?_
            try simp only [Act.put, List.setIfInBounds_toArray, List.set_cons_zero, List.set_cons_succ]
            refine Stg.wpAnyL_free (i := 23) (v := undef) 0 rfl (by kernel_rfl) (by kernel_rfl) (by kernel_rfl) (by kernel_rfl) (by kernel_rfl) (fun _ _ _ h => h) (Or.inr ⟨by kernel_rfl, rfl⟩) (by assumption) ?_
            try simp only [Act.put, List.setIfInBounds_toArray, List.set_cons_zero, List.set_cons_succ]
            refine Stg.wpAnyL_start (n' := 5) (l' := #[true, true, true, true, true, true, true, true, true, true, true, true, true, true, true, true, true, true, true, true, true, true, true, true, false, false, false, false, false]) (by kernel_rfl) (by kernel_rfl) ?_
            refine Stg.wpAnyL_free (i := 24) (v := undef) 0 rfl (by kernel_rfl) (by kernel_rfl) (by kernel_rfl) (by kernel_rfl) (by kernel_rfl) (fun _ _ _ h => h) (Or.inr ⟨by kernel_rfl, rfl⟩) (by assumption) ?_
            try simp only [Act.put, List.setIfInBounds_toArray, List.set_cons_zero, List.set_cons_succ]
            refine Stg.wpAnyL_free (i := 25) (v := undef) 0 rfl (by kernel_rfl) (by kernel_rfl) (by kernel_rfl) (by kernel_rfl) (by kernel_rfl) (fun _ _ _ h => h) (Or.inr ⟨by kernel_rfl, rfl⟩) (by assumption) ?_
            try simp only [Act.put, List.setIfInBounds_toArray, List.set_cons_zero, List.set_cons_succ]
            refine Stg.wpAnyL_free (i := 26) (v := undef) 0 rfl (by kernel_rfl) (by kernel_rfl) (by kernel_rfl) (by kernel_rfl) (by kernel_rfl) (fun _ _ _ h => h) (Or.inr ⟨by kernel_rfl, rfl⟩) (by assumption) ?_
            try simp only [Act.put, List.setIfInBounds_toArray, List.set_cons_zero, List.set_cons_succ]
            refine Stg.wpAnyL_start (n' := 2) (l' := #[true, true, true, true, true, true, true, true, true, true, true, true, true, true, true, true, true, true, true, true, true, true, true, true, true, true, true, false, false]) (by kernel_rfl) (by kernel_rfl) ?_
            refine Stg.wpAnyL_free (i := 27) (v := undef) 0 rfl (by kernel_rfl) (by kernel_rfl) (by kernel_rfl) (by kernel_rfl) (by kernel_rfl) (fun _ _ _ h => h) (Or.inr ⟨by kernel_rfl, rfl⟩) (by assumption) ?_
            try simp only [Act.put, List.setIfInBounds_toArray, List.set_cons_zero, List.set_cons_succ]
            refine Stg.wpAnyL_free (i := 28) (v := ?_) 0 rfl (by kernel_rfl) (by kernel_rfl) (by kernel_rfl) (by kernel_rfl) (by kernel_rfl) (fun _ _ _ h => h) (Or.inl ⟨by kernel_rfl, ?_⟩) (by assumption) ?_
            rotate_left
            · intro u _
              try simp only [List.getElem_toArray, List.getElem_cons_succ, List.getElem_cons_zero]
              go_simp
              try with_reducible rfl
            try simp only [Act.put, List.setIfInBounds_toArray, List.set_cons_zero, List.set_cons_succ]
            refine Stg.wpAnyL_done (by kernel_rfl) ?_ _
            try simp only [List.getElem_toArray, List.getElem_cons_succ, List.getElem_cons_zero]
            try simp only [Act.put, List.setIfInBounds_toArray, List.set_cons_zero, List.set_cons_succ]
            refine NoPanic.normal ?_
            go_wp2_with fail
            go_meet
            exact hP.out
          · have hx1 : (l.drop k0)[j]? ≠ none := fun e => by have := List.getElem?_eq_none_iff.1 e; have := hdl.out; omega
            have hy1 : M[j]? ≠ none := fun e => by have := List.getElem?_eq_none_iff.1 e; have := hMl.out; omega
            obtain ⟨x, y, hx, hy, hxy⟩ := (hKat.out.resolve_left hx1).resolve_left hy1
            have hx' : l[kk]? = some x := by rw [List.getElem?_drop] at hx; rw [← hkj]; exact hx
            obtain ⟨g, o, q, rfl, hg, hq, hhas⟩ := (H.out.bel (bNext kB.out hBj (Nat.le_refl _))).ent hx'
            obtain ⟨g', o', q', rfl, hg', hq', hhas'⟩ := (HM.out.bel hBj).ent hy
            have x0 := hq.1
            have z0 := hq'.1
            rw [hhas.t] at x0
            rw [hhas'.t] at z0
            have e2 : kk < n := by omega
            have e2I : (kk : Int) < (n : Int) := by omega
            have d2 : decide ((kk : Int) < (n : Int)) = true := decide_eq_true e2I
            have hb1 : (x.term == y.term) = false := by simpa using hxy
            replace hBj := Lib.hid hBj
            clear hx hy hx' hq hq' hhas hhas' hxy hx1 hy1 c1 c2 hjK hKn hKm hkj
            go_upto_region 19 with fail
            refine wp_region_noPanic ?_
            refine Stg.wp_region_L [] (Bs.SB wr) (by kernel_rfl) (fun _ => (Below.refl _ _).drew) (fun hHeld => ?_)
            refine Stg.wpAnyL_start (n' := 29) (l' := #[false, false, false, false, false, false, false, false, false, false, false, false, false, false, false, false, false, false, false, false, false, false, false, false, false, false, false, false, false]) (by kernel_rfl) (by kernel_rfl) ?_
            refine Stg.wpAnyL_free (i := 0) (v := ?_) 0 rfl (by kernel_rfl) (by kernel_rfl) (by kernel_rfl) (by kernel_rfl) (by kernel_rfl) (fun _ _ _ h => h) (Or.inl ⟨by kernel_rfl, ?_⟩) (by assumption) ?_
            rotate_left
            · intro u _
              try simp only [List.getElem_toArray, List.getElem_cons_succ, List.getElem_cons_zero]
              go_simp
              try with_reducible rfl
            try simp only [Act.put, List.setIfInBounds_toArray, List.set_cons_zero, List.set_cons_succ]
            refine Stg.wpAnyL_free (i := 1) (v := ?_) 0 rfl (by kernel_rfl) (by kernel_rfl) (by kernel_rfl) (by kernel_rfl) (by kernel_rfl) (fun _ _ _ h => h) (Or.inl ⟨by kernel_rfl, ?_⟩) (by assumption) ?_
            rotate_left
            · intro u _
              try simp only [List.getElem_toArray, List.getElem_cons_succ, List.getElem_cons_zero]
              go_simp
              try with_reducible rfl
            try simp only [Act.put, List.setIfInBounds_toArray, List.set_cons_zero, List.set_cons_succ]
            refine Stg.wpAnyL_free (i := 2) (v := ?_) 0 rfl (by kernel_rfl) (by kernel_rfl) (by kernel_rfl) (by kernel_rfl) (by kernel_rfl) (fun _ _ _ h => h) (Or.inl ⟨by kernel_rfl, ?_⟩) (by assumption) ?_
            rotate_left
            · intro u _
              try simp only [List.getElem_toArray, List.getElem_cons_succ, List.getElem_cons_zero]
              go_simp
              try with_reducible rfl
            try simp only [Act.put, List.setIfInBounds_toArray, List.set_cons_zero, List.set_cons_succ]
            refine Stg.wpAnyL_start (n' := 26) (l' := #[true, true, true, false, false, false, false, false, false, false, false, false, false, false, false, false, false, false, false, false, false, false, false, false, false, false, false, false, false]) (by kernel_rfl) (by kernel_rfl) ?_
            refine Stg.wpAnyL_free (i := 3) (v := ?_) 0 rfl (by kernel_rfl) (by kernel_rfl) (by kernel_rfl) (by kernel_rfl) (by kernel_rfl) (fun _ _ _ h => h) (Or.inl ⟨by kernel_rfl, ?_⟩) (by assumption) ?_
            rotate_left
            · intro u _
              try simp only [List.getElem_toArray, List.getElem_cons_succ, List.getElem_cons_zero]
              go_simp
              try with_reducible rfl
            try simp only [Act.put, List.setIfInBounds_toArray, List.set_cons_zero, List.set_cons_succ]
            refine Stg.wpAnyL_free (i := 4) (v := ?_) 0 rfl (by kernel_rfl) (by kernel_rfl) (by kernel_rfl) (by kernel_rfl) (by kernel_rfl) (fun _ _ _ h => h) (Or.inl ⟨by kernel_rfl, ?_⟩) (by assumption) ?_
            rotate_left
            · intro u _
              try simp only [List.getElem_toArray, List.getElem_cons_succ, List.getElem_cons_zero]
              go_simp
              try with_reducible rfl
            try simp only [Act.put, List.setIfInBounds_toArray, List.set_cons_zero, List.set_cons_succ]
            refine Stg.wpAnyL_free (i := 5) (v := ?_) 0 rfl (by kernel_rfl) (by kernel_rfl) (by kernel_rfl) (by kernel_rfl) (by kernel_rfl) (fun _ _ _ h => h) (Or.inl ⟨by kernel_rfl, ?_⟩) (by assumption) ?_
            rotate_left
            · intro u _
              try simp only [List.getElem_toArray, List.getElem_cons_succ, List.getElem_cons_zero]
              go_simp
              try with_reducible rfl
            try simp only [Act.put, List.setIfInBounds_toArray, List.set_cons_zero, List.set_cons_succ]
            refine Stg.wpAnyL_start (n' := 23) (l' := #[true, true, true, true, true, true, false, false, false, false, false, false, false, false, false, false, false, false, false, false, false, false, false, false, false, false, false, false, false]) (by kernel_rfl) (by kernel_rfl) ?_
            refine Stg.wpAnyL_free (i := 6) (v := ?_) 0 rfl (by kernel_rfl) (by kernel_rfl) (by kernel_rfl) (by kernel_rfl) (by kernel_rfl) (fun _ _ _ h => h) (Or.inl ⟨by kernel_rfl, ?_⟩) (by assumption) ?_
            rotate_left
            · intro u _
              try simp only [List.getElem_toArray, List.getElem_cons_succ, List.getElem_cons_zero]
              go_simp
              try with_reducible rfl
            try simp only [Act.put, List.setIfInBounds_toArray, List.set_cons_zero, List.set_cons_succ]
            refine Stg.wpAnyL_free (i := 7) (v := ?_) 0 rfl (by kernel_rfl) (by kernel_rfl) (by kernel_rfl) (by kernel_rfl) (by kernel_rfl) (fun _ _ _ h => h) (Or.inl ⟨by kernel_rfl, ?_⟩) (by assumption) ?_
            rotate_left
            · intro u _
              try simp only [List.getElem_toArray, List.getElem_cons_succ, List.getElem_cons_zero]
              go_simp
              try with_reducible rfl
            try simp only [Act.put, List.setIfInBounds_toArray, List.set_cons_zero, List.set_cons_succ]
            refine Stg.wpAnyL_free (i := 8) (v := ?_) 0 rfl (by kernel_rfl) (by kernel_rfl) (by kernel_rfl) (by kernel_rfl) (by kernel_rfl) (fun _ _ _ h => h) (Or.inl ⟨by kernel_rfl, ?_⟩) (by assumption) ?_
            rotate_left
            · intro u _
              try simp only [List.getElem_toArray, List.getElem_cons_succ, List.getElem_cons_zero]
              go_simp
              try with_reducible rfl
            try simp only [Act.put, List.setIfInBounds_toArray, List.set_cons_zero, List.set_cons_succ]
            refine Stg.wpAnyL_start (n' := 20) (l' := #[true, true, true, true, true, true, true, true, true, false, false, false, false, false, false, false, false, false, false, false, false, false, false, false, false, false, false, false, false]) (by kernel_rfl) (by kernel_rfl) ?_
            refine Stg.wpAnyL_take (i := 9) (v := ?_) [10, 11, 12, 13, 14, 15, 16, 17, 18, 19, 20, 21, 22, 23, 24, 25, 26, 27, 28] 0 rfl (by kernel_rfl) (by kernel_rfl) (by kernel_rfl) (by kernel_rfl) (by kernel_rfl) (fun _ _ _ h => h) (Or.inl ⟨by kernel_rfl, ?_⟩) (by assumption) ?_
            rotate_left
            · intro u hSu
              skip
              have sB := hSu rfl
              have y0 := cellB sB y2
              have y1 := cellB sB x0
              have y2 := cellB sB z0
              try simp only [List.getElem_toArray, List.getElem_cons_succ, List.getElem_cons_zero]
              go_simp
              try with_reducible rfl
            try simp only [Act.put, List.setIfInBounds_toArray, List.set_cons_zero, List.set_cons_succ]
            refine Stg.wpAnyL_free (i := 10) (v := ?_) 0 rfl (by kernel_rfl) (by kernel_rfl) (by kernel_rfl) (by kernel_rfl) (by kernel_rfl) (fun _ _ _ h => h) (Or.inl ⟨by kernel_rfl, ?_⟩) (by assumption) ?_
            rotate_left
            · intro u _
              try simp only [List.getElem_toArray, List.getElem_cons_succ, List.getElem_cons_zero]
              go_simp
              try with_reducible rfl
            try simp only [Act.put, List.setIfInBounds_toArray, List.set_cons_zero, List.set_cons_succ]
            refine Stg.wpAnyL_free (i := 11) (v := ?_) 0 rfl (by kernel_rfl) (by kernel_rfl) (by kernel_rfl) (by kernel_rfl) (by kernel_rfl) (fun _ _ _ h => h) (Or.inl ⟨by kernel_rfl, ?_⟩) (by assumption) ?_
            rotate_left
            · intro u _
              try simp only [List.getElem_toArray, List.getElem_cons_succ, List.getElem_cons_zero]
              go_simp
              try with_reducible rfl
            try simp only [Act.put, List.setIfInBounds_toArray, List.set_cons_zero, List.set_cons_succ]
            refine Stg.wpAnyL_start (n' := 17) (l' := #[true, true, true, true, true, true, true, true, true, true, true, true, false, false, false, false, false, false, false, false, false, false, false, false, false, false, false, false, false]) (by kernel_rfl) (by kernel_rfl) ?_
            refine Stg.wpAnyL_free (i := 12) (v := ?_) 0 rfl (by kernel_rfl) (by kernel_rfl) (by kernel_rfl) (by kernel_rfl) (by kernel_rfl) (fun _ _ _ h => h) (Or.inl ⟨by kernel_rfl, ?_⟩) (by assumption) ?_
            rotate_left
            · intro u _
              try simp only [List.getElem_toArray, List.getElem_cons_succ, List.getElem_cons_zero]
              go_simp
              try with_reducible rfl
            try simp only [Act.put, List.setIfInBounds_toArray, List.set_cons_zero, List.set_cons_succ]
            refine Stg.wpAnyL_free (i := 13) (v := ?_) 0 rfl (by kernel_rfl) (by kernel_rfl) (by kernel_rfl) (by kernel_rfl) (by kernel_rfl) (fun _ _ _ h => h) (Or.inl ⟨by kernel_rfl, ?_⟩) (by assumption) ?_
            rotate_left
            · intro u _
              try simp only [List.getElem_toArray, List.getElem_cons_succ, List.getElem_cons_zero]
              go_simp
              try with_reducible rfl
            try simp only [Act.put, List.setIfInBounds_toArray, List.set_cons_zero, List.set_cons_succ]
            refine Stg.wpAnyL_free (i := 14) (v := ?_) 0 rfl (by kernel_rfl) (by kernel_rfl) (by kernel_rfl) (by kernel_rfl) (by kernel_rfl) (fun _ _ _ h => h) (Or.inl ⟨by kernel_rfl, ?_⟩) (by assumption) ?_
            rotate_left
            · intro u _
              try simp only [List.getElem_toArray, List.getElem_cons_succ, List.getElem_cons_zero]
              go_simp
              try with_reducible rfl
            try simp only [Act.put, List.setIfInBounds_toArray, List.set_cons_zero, List.set_cons_succ]
            refine Stg.wpAnyL_start (n' := 14) (l' := #[true, true, true, true, true, true, true, true, true, true, true, true, true, true, true, false, false, false, false, false, false, false, false, false, false, false, false, false, false]) (by kernel_rfl) (by kernel_rfl) ?_
            refine Stg.wpAnyL_take (i := 15) (v := ?_) [19, 20, 21, 27, 28] 0 rfl (by kernel_rfl) (by kernel_rfl) (by kernel_rfl) (by kernel_rfl) (by kernel_rfl) (fun _ _ _ h => h) (Or.inl ⟨by kernel_rfl, ?_⟩) (by assumption) ?_
            rotate_left
            · intro u hSu
              skip
              have sB := hSu rfl
              have y0 := cellB sB y2
              have y1 := cellB sB x0
              have y2 := cellB sB z0
              try simp only [List.getElem_toArray, List.getElem_cons_succ, List.getElem_cons_zero]
              go_simp
              try with_reducible rfl
            try simp only [Act.put, List.setIfInBounds_toArray, List.set_cons_zero, List.set_cons_succ]
            refine Stg.wpAnyL_free (i := 16) (v := ?_) 0 rfl (by kernel_rfl) (by kernel_rfl) (by kernel_rfl) (by kernel_rfl) (by kernel_rfl) (fun _ _ _ h => h) (Or.inl ⟨by kernel_rfl, ?_⟩) (by assumption) ?_
            rotate_left
            · intro u _
              try simp only [List.getElem_toArray, List.getElem_cons_succ, List.getElem_cons_zero]
              go_simp
              try with_reducible rfl
            try simp only [Act.put, List.setIfInBounds_toArray, List.set_cons_zero, List.set_cons_succ]
            refine Stg.wpAnyL_free (i := 17) (v := ?_) 0 rfl (by kernel_rfl) (by kernel_rfl) (by kernel_rfl) (by kernel_rfl) (by kernel_rfl) (fun _ _ _ h => h) (Or.inl ⟨by kernel_rfl, ?_⟩) (by assumption) ?_
            rotate_left
            · intro u _
              try simp only [List.getElem_toArray, List.getElem_cons_succ, List.getElem_cons_zero]
              go_simp
              try with_reducible rfl
            try simp only [Act.put, List.setIfInBounds_toArray, List.set_cons_zero, List.set_cons_succ]
            refine Stg.wpAnyL_start (n' := 11) (l' := #[true, true, true, true, true, true, true, true, true, true, true, true, true, true, true, true, true, true, false, false, false, false, false, false, false, false, false, false, false]) (by kernel_rfl) (by kernel_rfl) ?_
            refine Stg.wpAnyL_free (i := 18) (v := ?_) 0 rfl (by kernel_rfl) (by kernel_rfl) (by kernel_rfl) (by kernel_rfl) (by kernel_rfl) (fun _ _ _ h => h) (Or.inl ⟨by kernel_rfl, ?_⟩) (by assumption) ?_
            rotate_left
            · intro u _
              try simp only [List.getElem_toArray, List.getElem_cons_succ, List.getElem_cons_zero]
              go_simp
              try with_reducible rfl
            try simp only [Act.put, List.setIfInBounds_toArray, List.set_cons_zero, List.set_cons_succ]
            refine Stg.wpAnyL_free (i := 19) (v := ?_) 0 rfl (by kernel_rfl) (by kernel_rfl) (by kernel_rfl) (by kernel_rfl) (by kernel_rfl) (fun _ _ _ h => h) (Or.inl ⟨by kernel_rfl, ?_⟩) (by assumption) ?_
            rotate_left
            · intro u _
              try simp only [List.getElem_toArray, List.getElem_cons_succ, List.getElem_cons_zero]
              go_simp
              try with_reducible rfl
            try simp only [Act.put, List.setIfInBounds_toArray, List.set_cons_zero, List.set_cons_succ]
            refine Stg.wpAnyL_free (i := 20) (v := ?_) 0 rfl (by kernel_rfl) (by kernel_rfl) (by kernel_rfl) (by kernel_rfl) (by kernel_rfl) (fun _ _ _ h => h) (Or.inl ⟨by kernel_rfl, ?_⟩) (by assumption) ?_
            rotate_left
            · intro u _
              try simp only [List.getElem_toArray, List.getElem_cons_succ, List.getElem_cons_zero]
              go_simp
              try with_reducible rfl
            try simp only [Act.put, List.setIfInBounds_toArray, List.set_cons_zero, List.set_cons_succ]
            refine Stg.wpAnyL_start (n' := 8) (l' := #[true, true, true, true, true, true, true, true, true, true, true, true, true, true, true, true, true, true, true, true, true, false, false, false, false, false, false, false, false]) (by kernel_rfl) (by kernel_rfl) ?_
            refine Stg.wpAnyL_take (i := 21) (v := ?_) [27, 28] 0 rfl (by kernel_rfl) (by kernel_rfl) (by kernel_rfl) (by kernel_rfl) (by kernel_rfl) (fun _ _ _ h => h) (Or.inl ⟨by kernel_rfl, ?_⟩) (by assumption) ?_
            rotate_left
            · intro u hSu
              skip
              have sB := hSu rfl
              have y0 := cellB sB y2
              have y1 := cellB sB x0
              have y2 := cellB sB z0
              try simp only [List.getElem_toArray, List.getElem_cons_succ, List.getElem_cons_zero]
              go_simp
              try with_reducible rfl
            try simp only [Act.put, List.setIfInBounds_toArray, List.set_cons_zero, List.set_cons_succ]
            refine Stg.wpAnyL_free (i := 22) (v := ?_) 0 rfl (by kernel_rfl) (by kernel_rfl) (by kernel_rfl) (by kernel_rfl) (by kernel_rfl) (fun _ _ _ h => h) (Or.inl ⟨by kernel_rfl, ?_⟩) (by assumption) ?_
            rotate_left
            · intro u _
              try simp only [List.getElem_toArray, List.getElem_cons_succ, List.getElem_cons_zero]
              go_simp
              try with_reducible rfl
            try simp only [Act.put, List.setIfInBounds_toArray, List.set_cons_zero, List.set_cons_succ]
            refine Stg.wpAnyL_free (i := 23) (v := ?_) 0 rfl (by kernel_rfl) (by kernel_rfl) (by kernel_rfl) (by kernel_rfl) (by kernel_rfl) (fun _ _ _ h => h) (Or.inl ⟨by kernel_rfl, ?_⟩) (by assumption) ?_
            rotate_left
            · intro u _
              try simp only [List.getElem_toArray, List.getElem_cons_succ, List.getElem_cons_zero]
              go_simp
              try with_reducible rfl
            try simp only [Act.put, List.setIfInBounds_toArray, List.set_cons_zero, List.set_cons_succ]
            refine Stg.wpAnyL_start (n' := 5) (l' := #[true, true, true, true, true, true, true, true, true, true, true, true, true, true, true, true, true, true, true, true, true, true, true, true, false, false, false, false, false]) (by kernel_rfl) (by kernel_rfl) ?_
            refine Stg.wpAnyL_free (i := 24) (v := ?_) 0 rfl (by kernel_rfl) (by kernel_rfl) (by kernel_rfl) (by kernel_rfl) (by kernel_rfl) (fun _ _ _ h => h) (Or.inl ⟨by kernel_rfl, ?_⟩) (by assumption) ?_
            rotate_left
            · intro u _
              try simp only [List.getElem_toArray, List.getElem_cons_succ, List.getElem_cons_zero]
              go_simp
              try with_reducible rfl
            try simp only [Act.put, List.setIfInBounds_toArray, List.set_cons_zero, List.set_cons_succ]
            refine Stg.wpAnyL_free (i := 25) (v := ?_) 0 rfl (by kernel_rfl) (by kernel_rfl) (by kernel_rfl) (by kernel_rfl) (by kernel_rfl) (fun _ _ _ h => h) (Or.inl ⟨by kernel_rfl, ?_⟩) (by assumption) ?_
            rotate_left
            · intro u _
              try simp only [List.getElem_toArray, List.getElem_cons_succ, List.getElem_cons_zero]
              go_simp
              try with_reducible rfl
            try simp only [Act.put, List.setIfInBounds_toArray, List.set_cons_zero, List.set_cons_succ]
            refine Stg.wpAnyL_take (i := 26) (v := ?_) [27, 28] 0 rfl (by kernel_rfl) (by kernel_rfl) (by kernel_rfl) (by kernel_rfl) (by kernel_rfl) (fun _ _ _ h => h) (Or.inl ⟨by kernel_rfl, ?_⟩) (by assumption) ?_
            rotate_left
            · intro u hSu
              skip
              have sB := hSu rfl
              have y0 := cellB sB y2
              have y1 := cellB sB x0
              have y2 := cellB sB z0
              try simp only [List.getElem_toArray, List.getElem_cons_succ, List.getElem_cons_zero]
              go_simp
              try with_reducible rfl
            try simp only [Act.put, List.setIfInBounds_toArray, List.set_cons_zero, List.set_cons_succ]
            refine Stg.wpAnyL_start (n' := 2) (l' := #[true, true, true, true, true, true, true, true, true, true, true, true, true, true, true, true, true, true, true, true, true, true, true, true, true, true, true, false, false]) (by kernel_rfl) (by kernel_rfl) ?_
            refine Stg.wpAnyL_free (i := 27) (v := ?_) 0 rfl (by kernel_rfl) (by kernel_rfl) (by kernel_rfl) (by kernel_rfl) (by kernel_rfl) (fun _ _ _ h => h) (Or.inl ⟨by kernel_rfl, ?_⟩) (by assumption) ?_
            rotate_left
            · intro u _
              try simp only [List.getElem_toArray, List.getElem_cons_succ, List.getElem_cons_zero]
              go_simp
              try with_reducible rfl
            try simp only [Act.put, List.setIfInBounds_toArray, List.set_cons_zero, List.set_cons_succ]
            refine Stg.wpAnyL_free (i := 28) (v := ?_) 0 rfl (by kernel_rfl) (by kernel_rfl) (by kernel_rfl) (by kernel_rfl) (by kernel_rfl) (fun _ _ _ h => h) (Or.inl ⟨by kernel_rfl, ?_⟩) (by assumption) ?_
            rotate_left
            · intro u _
              try simp only [List.getElem_toArray, List.getElem_cons_succ, List.getElem_cons_zero]
              go_simp
              try with_reducible rfl
            try simp only [Act.put, List.setIfInBounds_toArray, List.set_cons_zero, List.set_cons_succ]
            refine Stg.wpAnyL_done (by kernel_rfl) ?_ _
            try simp only [List.getElem_toArray, List.getElem_cons_succ, List.getElem_cons_zero]
            try simp only [Act.put, List.setIfInBounds_toArray, List.set_cons_zero, List.set_cons_succ]
            refine NoPanic.normal ?_
            go_wp2_with fail
            go_meet
            exact hP.out
    case rest =>
      obtain ⟨rfl, hBj⟩ := hcut
      have kX6 := kX.out.bel hBj
      have p0 := kX6.c 0 _ rfl
      have p1 := kX6.c 1 _ rfl
      have p2 := kX6.c 2 _ rfl
      have kB6 := Lib.hid (bNext kB.out hBj (Nat.le_refl _))
      have kS6 := Lib.hid (kS.out.bel hBj)
      obtain ⟨w6, rfl⟩ : ∃ wo : World, wo = wc := ⟨_, rfl⟩
      obtain ⟨R, hR⟩ : ∃ R, madeR b t (putL l M k0) = R := ⟨_, rfl⟩
      have hEM6 := Lib.hid (hEM.out.bel hBj)
      replace kX6 := Lib.hid kX6
      replace hBj := Lib.hid hBj
      by_cases c1 : kq < mM
      · have hpl : putL l M k0 = l.take (k0 + kq) ++ M.drop kq := by rw [hput.out, if_pos (by have := hMl.out; omega)]
        have hmade := Lib.hid (fun u a' c' x (hx : x = k0 + kq + (mM - kq)) (hq : LAt u a' x c' (l.take (k0 + kq) ++ M.drop kq)) => (show Calls Try.prog 34 #[.int .i64 b, .int .i64 t, .slice a' x c'] u (RowsP u R) by
          have q := rmade_c b t a' x c' _ u hq ((hw.take (k0 + kq)).app (hwM.out.drop kq)) hb ht (fun _ => (hsm.out.take (k0 + kq)).app (hsM.out.drop kq) (by have := hsM.out.1; have := hnl.out; have := hMl.out; simp; omega))
          rw [← hpl, hR] at q
          exact q))
        replace hR := Lib.hid hR
        have c1I : (kq : Int) < (mM : Int) := by omega
        obtain ⟨kk, hkj⟩ : ∃ kk, k0 + kq = kk := ⟨_, rfl⟩
        have hkI : (k0 : Int) + (kq : Int) = (kk : Int) := by omega
        have hwk : IntKind.i64.wrap (kk : Int) = (kk : Int) := IntWalk.i64_in _ (by omega)
        have hkkn : kk ≤ n := by omega
        have hkI2 : (kk : Int) ≤ (n : Int) := by omega
        have hKI2 : (kq : Int) ≤ (mM : Int) := by omega
        have hkj' := Lib.hid hkj
        clear hpl hKn hKm hkj
        go_wp2_with (at_builtin; refine wpList_append_es rfl (.tmp 145) (.tmp 147) rfl w6.heap.size (.slice none 0 0) 0 [] (by rfl) (World.ownsRow_nil _ _ _ _) a n c es1 (by rfl) (hE1.out.bel kB6.out) (by omega) (Nat.le_refl _) ?_; intro v7 w8 hown7 hgrow7 hat7; rw [Nat.zero_add, List.nil_append] at hown7; have hb7 : Below w6.heap.size w6 w8 := (Below.refl _ _).grown hgrow7 (Nat.le_refl _) (fun q hq => by cases hq); have hsz7 := hb7.size; obtain ⟨a8, c8, rfl, hE8⟩ := EsAt.of_own hown7; have hn8 := hE8.le; have q0 := cellB hb7 p0; have q1 := cellB hb7 p1; have q2 := cellB hb7 p2; have hown8 := Lib.hid hown7; replace hb7 := Lib.hid hb7; clear hown7 hgrow7 hat7 hE8)
        have hkc : (kk : Int) ≤ (c8 : Int) := by omega
        have hkcN : kk ≤ c8 := by omega
        have hEM8 := Lib.hid (hEM6.out.bel hb7.out)
        have hMc : (kq : Int) ≤ (cM : Int) := by have := hEM6.out.le; omega
        refine wp_region_noPanic ?_
        refine Stg.wp_region_L [8] (Bs.SB w8) (by kernel_rfl) (fun _ => (Below.refl _ _).drew) (fun hHeld => ?_)
        refine Stg.wpAnyL_start (n' := 10) (l' := #[false, false, false, false, false, false, false, false, false, false]) (by kernel_rfl) (by kernel_rfl) ?_
        refine Stg.wpAnyL_free (i := 0) (v := ?_) 0 rfl (by kernel_rfl) (by kernel_rfl) (by kernel_rfl) (by kernel_rfl) (by kernel_rfl) (fun _ _ _ h => h) (Or.inl ⟨by kernel_rfl, ?_⟩) (by assumption) ?_
        rotate_left
        · intro u _
          try simp only [List.getElem_toArray, List.getElem_cons_succ, List.getElem_cons_zero]
          go_simp
          try with_reducible rfl
        try simp only [Act.put, List.setIfInBounds_toArray, List.set_cons_zero, List.set_cons_succ]
        refine Stg.wpAnyL_free (i := 1) (v := ?_) 0 rfl (by kernel_rfl) (by kernel_rfl) (by kernel_rfl) (by kernel_rfl) (by kernel_rfl) (fun _ _ _ h => h) (Or.inl ⟨by kernel_rfl, ?_⟩) (by assumption) ?_
        rotate_left
        · intro u _
          try simp only [List.getElem_toArray, List.getElem_cons_succ, List.getElem_cons_zero]
          go_simp
          try with_reducible rfl
        try simp only [Act.put, List.setIfInBounds_toArray, List.set_cons_zero, List.set_cons_succ]
        refine Stg.wpAnyL_free (i := 2) (v := ?_) 0 rfl (by kernel_rfl) (by kernel_rfl) (by kernel_rfl) (by kernel_rfl) (by kernel_rfl) (fun _ _ _ h => h) (Or.inl ⟨by kernel_rfl, ?_⟩) (by assumption) ?_
        rotate_left
        · intro u _
          try simp only [List.getElem_toArray, List.getElem_cons_succ, List.getElem_cons_zero]
          go_simp
          try with_reducible rfl
        try simp only [Act.put, List.setIfInBounds_toArray, List.set_cons_zero, List.set_cons_succ]
        refine Stg.wpAnyL_start (n' := 7) (l' := #[true, true, true, false, false, false, false, false, false, false]) (by kernel_rfl) (by kernel_rfl) ?_
        refine Stg.wpAnyL_free (i := 3) (v := ?_) 0 rfl (by kernel_rfl) (by kernel_rfl) (by kernel_rfl) (by kernel_rfl) (by kernel_rfl) (fun _ _ _ h => h) (Or.inl ⟨by kernel_rfl, ?_⟩) (by assumption) ?_
        rotate_left
        · intro u _
          try simp only [List.getElem_toArray, List.getElem_cons_succ, List.getElem_cons_zero]
          go_simp
          try with_reducible rfl
        try simp only [Act.put, List.setIfInBounds_toArray, List.set_cons_zero, List.set_cons_succ]
        refine Stg.wpAnyL_free (i := 4) (v := ?_) 0 rfl (by kernel_rfl) (by kernel_rfl) (by kernel_rfl) (by kernel_rfl) (by kernel_rfl) (fun _ _ _ h => h) (Or.inl ⟨by kernel_rfl, ?_⟩) (by assumption) ?_
        rotate_left
        · intro u _
          try simp only [List.getElem_toArray, List.getElem_cons_succ, List.getElem_cons_zero]
          go_simp
          try with_reducible rfl
        try simp only [Act.put, List.setIfInBounds_toArray, List.set_cons_zero, List.set_cons_succ]
        refine Stg.wpAnyL_free (i := 5) (v := ?_) 0 rfl (by kernel_rfl) (by kernel_rfl) (by kernel_rfl) (by kernel_rfl) (by kernel_rfl) (fun _ _ _ h => h) (Or.inl ⟨by kernel_rfl, ?_⟩) (by assumption) ?_
        rotate_left
        · intro u _
          try simp only [List.getElem_toArray, List.getElem_cons_succ, List.getElem_cons_zero]
          go_simp
          try with_reducible rfl
        try simp only [Act.put, List.setIfInBounds_toArray, List.set_cons_zero, List.set_cons_succ]
        refine Stg.wpAnyL_start (n' := 4) (l' := #[true, true, true, true, true, true, false, false, false, false]) (by kernel_rfl) (by kernel_rfl) ?_
        refine Stg.wpAnyL_free (i := 6) (v := ?_) 0 rfl (by kernel_rfl) (by kernel_rfl) (by kernel_rfl) (by kernel_rfl) (by kernel_rfl) (fun _ _ _ h => h) (Or.inl ⟨by kernel_rfl, ?_⟩) (by assumption) ?_
        rotate_left
        · intro u _
          try simp only [List.getElem_toArray, List.getElem_cons_succ, List.getElem_cons_zero]
          go_simp
          try with_reducible rfl
        try simp only [Act.put, List.setIfInBounds_toArray, List.set_cons_zero, List.set_cons_succ]
        refine Stg.wpAnyL_free (i := 7) (v := ?_) 0 rfl (by kernel_rfl) (by kernel_rfl) (by kernel_rfl) (by kernel_rfl) (by kernel_rfl) (fun _ _ _ h => h) (Or.inl ⟨by kernel_rfl, ?_⟩) (by assumption) ?_
        rotate_left
        · intro u _
          try simp only [List.getElem_toArray, List.getElem_cons_succ, List.getElem_cons_zero]
          go_simp
          try with_reducible rfl
        try simp only [Act.put, List.setIfInBounds_toArray, List.set_cons_zero, List.set_cons_succ]
        refine Stg.wpAnyL_one (i := 8) 1 rfl (by kernel_rfl) (by kernel_rfl) (fun K hK => ?_)
        try simp only [List.getElem_toArray, List.getElem_cons_succ, List.getElem_cons_zero]
        rw [if_pos (by kernel_rfl)]
        refine wp_append_es (.tmp 157) (.tmp 160) rfl w6.heap.size _ kk (es1.take kk) (by kernel_rfl) (own_bel (own_upto hown8.out hkkn).1 (hHeld rfl)) (cutA aM kq cM 5) (mM - kq) (cM - kq) (esM.drop kq) (by kernel_rfl) ((hEM8.out.bel (hHeld rfl)).cut_all (by omega)) (by omega) (by have := (hHeld rfl).size; omega) ?_
        intro v9 w9 hown9 hgrow9
        have hb9 : Below w6.heap.size w8.drew w9 := (Below.refl _ _).grown hgrow9 (by simpa using hsz7) (fun q hq => by rw [(own_upto hown8.out hkkn).2] at hq; exact (hown8.out.lt q hq).1)
        refine hK.out _ _ ?_ (fun hHeld1 => ?_)
        · exact fun h => absurd h (by decide)
        clear hK K
        try simp only [Act.put, List.setIfInBounds_toArray, List.set_cons_zero, List.set_cons_succ]
        refine Stg.wpAnyL_start (n' := 1) (l' := #[true, true, true, true, true, true, true, true, true, false]) (by kernel_rfl) (by kernel_rfl) ?_
        refine Stg.wpAnyL_free (i := 9) (v := ?_) 1 rfl (by kernel_rfl) (by kernel_rfl) (by kernel_rfl) (by kernel_rfl) (by kernel_rfl) (fun _ _ _ h => h) (Or.inl ⟨by kernel_rfl, ?_⟩) (by assumption) ?_
        rotate_left
        · intro u _
          try simp only [List.getElem_toArray, List.getElem_cons_succ, List.getElem_cons_zero]
          go_simp
          try with_reducible rfl
        try simp only [Act.put, List.setIfInBounds_toArray, List.set_cons_zero, List.set_cons_succ]
        refine Stg.wpAnyL_done (by kernel_rfl) ?_ _
        try simp only [List.getElem_toArray, List.getElem_cons_succ, List.getElem_cons_zero]
        try simp only [Act.put, List.setIfInBounds_toArray, List.set_cons_zero, List.set_cons_succ]
        refine NoPanic.normal ?_
        obtain ⟨a9, c9, rfl, hE9⟩ := EsAt.of_own hown9
        have hbx := hb7.out.trans ((Below.refl _ _).drew.trans hb9)
        have hB9 := Lib.hid (bNext kB6.out hbx (Nat.le_refl _))
        have rs9 := Lib.hid (kS6.out.bel hbx)
        have kX9 := kX6.out.bel hbx
        have p0 := kX9.c 0 _ rfl
        have p1 := kX9.c 1 _ rfl
        have p2 := kX9.c 2 _ rfl
        have hL9 := Lib.hid (show LAt w9 a9 (kk + (mM - kq)) c9 (l.take (k0 + kq) ++ M.drop kq) from ⟨_, hE9, by rw [hkj'.out]; exact ((hH1.out.bel hB9.out).take kk).app (((hHM.out.bel hBj.out).bel hbx).drop kq)⟩)
        have hxx := Lib.hid (show kk + (mM - kq) = k0 + kq + (mM - kq) by rw [hkj'.out])
        clear hgrow9 hown9 hb9 hE9 hbx kX9 q0 q1 q2
        go_wp2_with fail
        refine (hmade.out _ _ _ _ hxx.out hL9.out).mono ?_
        rintro e w7 ⟨a6, n6, c6, rfl, hL6, hF6, hb6⟩
        have rs6 := rs9.out.bel hb6
        have hB6 := bNext hB9.out hb6 (Nat.le_refl _)
        have hlw9 := rs9.out.l
        have hFF := hF6.mono (show w.heap.size + 2 ≤ w9.heap.size by omega)
        have r0 := rs6.c 0 _ rfl
        have r1 := rs6.c 1 _ rfl
        have r2 := rs6.c 2 _ rfl
        have rf := rs6.f 0
        have rf1 := rs6.f 1
        have rf2 := rs6.f 2
        have hlw7 := rs6.l
        have rs7 := blk_set3 rs6 (.int .i64 R.b) (.int .i64 R.t) (.slice a6 n6 c6)
        have hba := (Below.refl (((w7.setCell ⟨w.heap.size + 1, 0, none⟩ (.int .i64 R.b)).setCell ⟨w.heap.size + 1, 1, none⟩ (.int .i64 R.t)).setCell ⟨w.heap.size + 1, 2, none⟩ (.slice a6 n6 c6)).heap.size _).alloc (Nat.le_refl _) (.cells #[.int .i64 R.b, .int .i64 R.t, .slice a6 n6 c6] 24)
        have rs8 := rs7.bel hba
        have t0 := Lib.hid (rs8.c 0 _ rfl)
        have t1 := Lib.hid (rs8.c 1 _ rfl)
        have t2 := Lib.hid (rs8.c 2 _ rfl)
        have rs7z := blk_set3 rs6 (.int .i64 0) (.int .i64 0) (.slice none 0 0)
        have hbaz := (Below.refl (((w7.setCell ⟨w.heap.size + 1, 0, none⟩ (.int .i64 0)).setCell ⟨w.heap.size + 1, 1, none⟩ (.int .i64 0)).setCell ⟨w.heap.size + 1, 2, none⟩ (.slice none 0 0)).heap.size _).alloc (Nat.le_refl _) (.cells #[.int .i64 R.b, .int .i64 R.t, .slice a6 n6 c6] 24)
        have rs8z := rs7z.bel hbaz
        have t0z := Lib.hid (rs8z.c 0 _ rfl)
        have t1z := Lib.hid (rs8z.c 1 _ rfl)
        have t2z := Lib.hid (rs8z.c 2 _ rfl)
        have hL8 := Lib.hid ((hL6.set3 hFF (show w.heap.size + 1 < w.heap.size + 2 by omega) rs6 (.int .i64 R.b) (.int .i64 R.t) (.slice a6 n6 c6)).bel hba)
        have hB8 := Lib.hid (bNext (below_set3 hB6 (show w.heap.size ≤ w.heap.size + 1 by omega) (.int .i64 R.b) (.int .i64 R.t) (.slice a6 n6 c6)) hba (Nat.le_refl _))
        have hB8z := Lib.hid (bNext (below_set3 hB6 (show w.heap.size ≤ w.heap.size + 1 by omega) (.int .i64 0) (.int .i64 0) (.slice none 0 0)) hbaz (Nat.le_refl _))
        clear rs6 hB6 rs7 rs8 rs7z rs8z hL6 hF6 hb6 hFF hba hbaz
        by_cases hRe : R.e = 0
        · have hp := Lib.hid (show putT R (i + (l2.length : Int)) = ⟨R, i + (l2.length : Int), true⟩ by unfold putT; rw [if_pos hRe])
          have hRe' := Lib.hid hRe
          go_wp2_with fail
          refine bodyPost_ret (v := .tuple #[.agg #[.int .i64 R.b, .int .i64 R.t, .slice a6 n6 c6], .int .i64 (i + (l2.length : Int)), .bool true, .int .i64 0]) (by simp [results, Try.results11, go_sem, t0.out, t1.out, t2.out]) rfl ?_
          rw [hm.out, hR.out, hp.out]
          exact ⟨_, _, _, by rw [hRe'.out], hL8.out, hB8.out⟩
        · have hp := Lib.hid (show putT R (i + (l2.length : Int)) = ⟨R, 0, false⟩ by unfold putT; rw [if_neg hRe])
          have hbad : R = ⟨0, 0, [], R.e⟩ := by rw [← hR.out] at hRe ⊢; exact madeR_bad hRe
          have z1 := Lib.hid (show R.b = 0 by rw [hbad])
          have z2 := Lib.hid (show R.t = 0 by rw [hbad])
          have z3 := Lib.hid (show R.l = [] by rw [hbad])
          clear hbad
          have hRb : (R.e == 0) = false := by simpa using hRe
          have hRb' : (R.e != 0) = true := by simpa using hRe
          replace hRe := Lib.hid hRe
          go_wp2_with fail
          refine bodyPost_ret (v := .tuple #[.agg #[.int .i64 0, .int .i64 0, .slice none 0 0], .int .i64 0, .bool false, .int .i64 R.e]) (by simp [results, Try.results11, go_sem, t0z.out, t1z.out, t2z.out]) rfl ?_
          rw [hm.out, hR.out, hp.out]
          exact ⟨none, 0, 0, by rw [z1.out, z2.out], by rw [z3.out]; exact LAt.nil _ _ _ (by omega), hB8z.out⟩
      · have hpl : putL l M k0 = l := by rw [hput.out, if_neg (by have := hMl.out; omega)]
        have hmade := Lib.hid (fun u a' c' (hq : LAt u a' n c' l) => (show Calls Try.prog 34 #[.int .i64 b, .int .i64 t, .slice a' n c'] u (RowsP u R) by
          have q := rmade_c b t a' n c' l u hq hw hb ht (fun _ => hsm.out)
          rw [← hpl, hR] at q
          exact q))
        replace hR := Lib.hid hR
        have c1I : ¬ (kq : Int) < (mM : Int) := by omega
        clear hpl hKn hKm
        go_wp2_with (at_builtin; refine wpList_append_es rfl (.tmp 145) (.tmp 147) rfl w6.heap.size (.slice none 0 0) 0 [] (by rfl) (World.ownsRow_nil _ _ _ _) a n c es1 (by rfl) (hE1.out.bel kB6.out) (by omega) (Nat.le_refl _) ?_; intro v7 w8 hown7 hgrow7 hat7; rw [Nat.zero_add, List.nil_append] at hown7; have hb7 : Below w6.heap.size w6 w8 := (Below.refl _ _).grown hgrow7 (Nat.le_refl _) (fun q hq => by cases hq); obtain ⟨a8, c8, rfl, hE8⟩ := EsAt.of_own hown7; have q0 := cellB hb7 p0; have q1 := cellB hb7 p1; have q2 := cellB hb7 p2; replace hE8 := Lib.hid hE8; replace hb7 := Lib.hid hb7; clear hown7 hgrow7 hat7)
        have hB9 := Lib.hid (bNext kB6.out hb7.out (Nat.le_refl _))
        have rs9 := Lib.hid (kS6.out.bel hb7.out)
        have hL9 := Lib.hid (show LAt w8 a8 n c8 l from ⟨_, hE8.out, hH1.out.bel hB9.out⟩)
        refine (hmade.out _ _ _ hL9.out).mono ?_
        rintro e w7 ⟨a6, n6, c6, rfl, hL6, hF6, hb6⟩
        have rs6 := rs9.out.bel hb6
        have hB6 := bNext hB9.out hb6 (Nat.le_refl _)
        have hlw9 := rs9.out.l
        have hFF := hF6.mono (show w.heap.size + 2 ≤ w8.heap.size by omega)
        have r0 := rs6.c 0 _ rfl
        have r1 := rs6.c 1 _ rfl
        have r2 := rs6.c 2 _ rfl
        have rf := rs6.f 0
        have rf1 := rs6.f 1
        have rf2 := rs6.f 2
        have hlw7 := rs6.l
        have rs7 := blk_set3 rs6 (.int .i64 R.b) (.int .i64 R.t) (.slice a6 n6 c6)
        have hba := (Below.refl (((w7.setCell ⟨w.heap.size + 1, 0, none⟩ (.int .i64 R.b)).setCell ⟨w.heap.size + 1, 1, none⟩ (.int .i64 R.t)).setCell ⟨w.heap.size + 1, 2, none⟩ (.slice a6 n6 c6)).heap.size _).alloc (Nat.le_refl _) (.cells #[.int .i64 R.b, .int .i64 R.t, .slice a6 n6 c6] 24)
        have rs8 := rs7.bel hba
        have t0 := Lib.hid (rs8.c 0 _ rfl)
        have t1 := Lib.hid (rs8.c 1 _ rfl)
        have t2 := Lib.hid (rs8.c 2 _ rfl)
        have rs7z := blk_set3 rs6 (.int .i64 0) (.int .i64 0) (.slice none 0 0)
        have hbaz := (Below.refl (((w7.setCell ⟨w.heap.size + 1, 0, none⟩ (.int .i64 0)).setCell ⟨w.heap.size + 1, 1, none⟩ (.int .i64 0)).setCell ⟨w.heap.size + 1, 2, none⟩ (.slice none 0 0)).heap.size _).alloc (Nat.le_refl _) (.cells #[.int .i64 R.b, .int .i64 R.t, .slice a6 n6 c6] 24)
        have rs8z := rs7z.bel hbaz
        have t0z := Lib.hid (rs8z.c 0 _ rfl)
        have t1z := Lib.hid (rs8z.c 1 _ rfl)
        have t2z := Lib.hid (rs8z.c 2 _ rfl)
        have hL8 := Lib.hid ((hL6.set3 hFF (show w.heap.size + 1 < w.heap.size + 2 by omega) rs6 (.int .i64 R.b) (.int .i64 R.t) (.slice a6 n6 c6)).bel hba)
        have hB8 := Lib.hid (bNext (below_set3 hB6 (show w.heap.size ≤ w.heap.size + 1 by omega) (.int .i64 R.b) (.int .i64 R.t) (.slice a6 n6 c6)) hba (Nat.le_refl _))
        have hB8z := Lib.hid (bNext (below_set3 hB6 (show w.heap.size ≤ w.heap.size + 1 by omega) (.int .i64 0) (.int .i64 0) (.slice none 0 0)) hbaz (Nat.le_refl _))
        clear rs6 hB6 rs7 rs8 rs7z rs8z hL6 hF6 hb6 hFF hba hbaz
        by_cases hRe : R.e = 0
        · have hp := Lib.hid (show putT R (i + (l2.length : Int)) = ⟨R, i + (l2.length : Int), true⟩ by unfold putT; rw [if_pos hRe])
          have hRe' := Lib.hid hRe
          go_wp2_with fail
          refine bodyPost_ret (v := .tuple #[.agg #[.int .i64 R.b, .int .i64 R.t, .slice a6 n6 c6], .int .i64 (i + (l2.length : Int)), .bool true, .int .i64 0]) (by simp [results, Try.results11, go_sem, t0.out, t1.out, t2.out]) rfl ?_
          rw [hm.out, hR.out, hp.out]
          exact ⟨_, _, _, by rw [hRe'.out], hL8.out, hB8.out⟩
        · have hp := Lib.hid (show putT R (i + (l2.length : Int)) = ⟨R, 0, false⟩ by unfold putT; rw [if_neg hRe])
          have hbad : R = ⟨0, 0, [], R.e⟩ := by rw [← hR.out] at hRe ⊢; exact madeR_bad hRe
          have z1 := Lib.hid (show R.b = 0 by rw [hbad])
          have z2 := Lib.hid (show R.t = 0 by rw [hbad])
          have z3 := Lib.hid (show R.l = [] by rw [hbad])
          clear hbad
          have hRb : (R.e == 0) = false := by simpa using hRe
          have hRb' : (R.e != 0) = true := by simpa using hRe
          replace hRe := Lib.hid hRe
          go_wp2_with fail
          refine bodyPost_ret (v := .tuple #[.agg #[.int .i64 0, .int .i64 0, .slice none 0 0], .int .i64 0, .bool false, .int .i64 R.e]) (by simp [results, Try.results11, go_sem, t0z.out, t1z.out, t2z.out]) rfl ?_
          rw [hm.out, hR.out, hp.out]
          exact ⟨none, 0, 0, by rw [z1.out, z2.out], by rw [z3.out]; exact LAt.nil _ _ _ (by omega), hB8z.out⟩
end Go.Proofs.Ytbiodlhiilmgkaa
