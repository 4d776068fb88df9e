/- Rows by what they say: Put. -/
import Derived.Test.YtbiodlhiilmgkaaCt14
import Derived.Deep.CutRange
namespace Go.Proofs.Ytbiodlhiilmgkaa
open Go.ChangeShapes Go.WideShapes Go.ChangeAt Go.RowKit
set_option linter.unusedVariables false
set_option linter.unusedSimpArgs false
open BigFrame Bs Rw Ct

namespace Ct
/-- Behind the copy of the rows as they were. -/
def PutC (w : World) (b t : Int) (a : Option Addr) (n c : Nat) (l : List En) (s12 : Value) (wx : World) : Prop :=
  ∃ A a5 c5, s12 = .pointer (some ⟨A, 0, none⟩) ∧ Blk wx A [.int .i64 b, .int .i64 t, .slice a5 n c5] ∧ w.heap.size + 2 ≤ A ∧ LAt wx a5 n c5 l ∧ Far (w.heap.size + 2) a5 n ∧
    Blk wx w.heap.size [.int .i64 b, .int .i64 t, .slice a n c] ∧ Blk wx (w.heap.size + 1) [.int .i64 0, .int .i64 0, .slice none 0 0] ∧ Below w.heap.size w wx
/-- Behind the switch: so many rows in, these entries come. -/
def PutD (w : World) (b t : Int) (a : Option Addr) (n c : Nat) (l : List En) (i τ : Int) (l2 : List En) (s1 s3 s9 : Value) (wx : World) : Prop :=
  ∃ (k0 : Nat) (M : List En) (aM : Option Addr) (mM cM : Nat), s1 = .int .i64 (b + (k0 : Int)) ∧ s3 = .slice aM mM cM ∧ s9 = .int .i64 (i + (l2.length : Int)) ∧ LAt wx aM mM cM M ∧ k0 ≤ n ∧ M.length ≤ 16 ∧ (∀ y ∈ M, y ∈ l2) ∧
    putR b t l i τ l2 = putT (madeR b t (putL l M k0)) (i + (l2.length : Int)) ∧
    Blk wx w.heap.size [.int .i64 b, .int .i64 t, .slice a n c] ∧ Blk wx (w.heap.size + 1) [.int .i64 0, .int .i64 0, .slice none 0 0] ∧ Below w.heap.size w wx
theorem wpList_append_full {w : World} {ops : Array Oper} {rest : List Oper} {o : Oper} {a : Act} {Q : Exit → Act → World → Prop} (hgd : o.guard = none) (s x : Operand)
    (hop : o.op = .call { callee := .builtin .append, args := #[s, x], argTypes := #[22, 22] })
    {A A2 : Option Addr} {n m c2 : Nat} {l l2 : List En} (hs : a.eval s = .slice A n n) (hx : a.eval x = .slice A2 m c2) (h1 : LAt w A n n l) (h2 : LAt w A2 m c2 l2) (hn : n + m ≤ 1000000)
    (h : ∀ a' c' w', LAt w' a' (n + m) c' (l ++ l2) → Below w.heap.size w w' → wpList Try.prog ops Q rest (a.put o.dst (.slice a' (n + m) c')) w') : wpList Try.prog ops Q (o :: rest) a w :=
  wpList_plain hgd fun K hK => wp_append_full s x hop hs hx h1 h2 hn (fun a' c' w' q1 q2 => hK _ _ (h a' c' w' q1 q2))
/-- Behind the loop: so many are of the same terms. -/
def PutE (w5 : World) (M : List En) (mM K k0 : Nat) (s3 s17 : Value) (wx : World) : Prop :=
  ∃ (aj : Option Addr) (mj cj kk : Nat), s3 = .slice aj mj cj ∧ s17 = .int .i64 (kk : Nat) ∧ kk = k0 + K ∧ mj + K = mM ∧ LAt wx aj mj cj (M.drop K) ∧ Below w5.heap.size w5 wx
def sliLen : Value → Nat
  | .slice _ k _ => k
  | _ => 0
end Ct
attribute [local go_sem ↓] sliced_cut
attribute [local go_sem] mx_fold mn_fold

set_option maxRecDepth 100000 in
set_option maxHeartbeats 40000000 in
theorem put_main (b t i τ : Int) (a a2 : Option Addr) (n c m c2 : Nat) (l l2 : List En) (w : World) (h : LAt w a n c l) (h2 : LAt w a2 m c2 l2) (hw : Wfl l) (hw2 : Wfl l2) (hb : I64 b) (ht : I64 t) (hi : I64 i) (hτ : I64 τ) (hc : chk b t l = true) (h16 : l2.length ≤ 16) (hc2 : chk i τ l2 = true) :
    Calls Try.prog 10 #[.agg #[.int .i64 b, .int .i64 t, .slice a n c], .int .i64 i, .int .i64 τ, .slice a2 m c2] w (PutP w (putR b t l i τ l2)) := by
  have hB0 : Below w.heap.size w ((w.alloc (.cells #[.int .i64 b, .int .i64 t, .slice a n c] 24)).alloc (.cells #[.int .i64 0, .int .i64 0, .slice none 0 0] 24)) := ((Below.refl _ _).alloc (Nat.le_refl _) _).alloc (by simp) _
  have bx := Lib.hid ((blk_new w [.int .i64 b, .int .i64 t, .slice a n c] 24).bel ((Below.refl _ _).alloc (Nat.le_refl _) (.cells #[.int .i64 0, .int .i64 0, .slice none 0 0] 24)))
  have rs := blk_new (w.alloc (.cells #[.int .i64 b, .int .i64 t, .slice a n c] 24)) [.int .i64 0, .int .i64 0, .slice none 0 0] 24
  rw [World.size_alloc] at rs
  replace rs := Lib.hid rs
  have hck := Lib.hid (check_l b t a n c l _ (h.bel hB0) hw hb ht)
  rw [hc] at hck
  replace hB0 := Lib.hid hB0
  have hck2 := Lib.hid (fun u (hu : Below w.heap.size w u) => check_l i τ a2 m c2 l2 u (h2.bel hu) hw2 hi hτ)
  rw [hc2] at hck2
  have hml := h2.len
  have hnl := h.len
  obtain ⟨g1, _⟩ := chk_iff.1 hc
  obtain ⟨j1, _⟩ := chk_iff.1 hc2
  have g2 : 0 ≤ b := g1.1
  have g3 : (n : Int) ≤ 4096 := by omega
  have g4 : b ≤ 1099511627776 := by omega
  have j2 : 0 ≤ i := j1.1
  have j3 : (m : Int) ≤ 16 := by omega
  have j4 : i ≤ 1099511627776 := by omega
  have k16 : ¬ (16 : Int) < (m : Int) := by omega
  have d16 : decide ((16 : Int) < (m : Int)) = false := decide_eq_false (by omega)
  have hsm := Lib.hid (chk_sml hc)
  have hsm2 := Lib.hid (chk_sml hc2)
  have hcp := Lib.hid (fun u (hu : Below w.heap.size w u) => copied_c a n c l u (h.bel hu) hsm.out)
  have hla := Lib.hid (fun u B (hu : Below w.heap.size w u) x0 x1 x2 => last_l b t a n c l B u (h.bel hu) hw hb ht hc x0 x1 x2)
  have htm := Lib.hid (fun u (hu : Below w.heap.size w u) => term_c b t i a n c l u (h.bel hu) hw hb ht hi hc)
  have HC := Lib.hid hc
  have HC2 := Lib.hid hc2
  have H := Lib.hid h
  have H2 := Lib.hid h2
  replace hml := Lib.hid hml
  replace hnl := Lib.hid hnl
  clear g1 j1 hc hc2 h h2
  go_enter Try.func10, Try.ntmps10
  go_wp2_with fail
  go_step3
  go_wp2_with fail
  refine hck.out.mono ?_
  rintro e w1 ⟨rfl, hb1⟩
  have bx1 := Lib.hid (bx.out.bel hb1)
  have rs1 := Lib.hid (rs.out.bel hb1)
  have hB1 := Lib.hid (bNext hB0.out hb1 (Nat.le_refl _))
  clear hb1 hck rs hB0 bx
  go_wp2_with fail
  refine (hck2.out _ hB1.out).mono ?_
  rintro e w2 ⟨rfl, hb2⟩
  have bx2 := bx1.out.bel hb2
  have rs2 := Lib.hid (rs1.out.bel hb2)
  have hB2 := Lib.hid (bNext hB1.out hb2 (Nat.le_refl _))
  clear hb2 hck2 rs1 hB1 bx1
  go_upto_region 5 with fail
  go_cut [12] (fun s12 wx => PutC w b t a n c l s12 wx)
  case first =>
    have p0 := bx2.c 0 _ rfl
    have p1 := bx2.c 1 _ rfl
    have p2 := bx2.c 2 _ rfl
    have hlw := rs2.out.l
    replace bx2 := Lib.hid bx2
    refine wp_region_noPanic ?_
    refine Stg.wp_region_L [9] (Bs.SB w2) (by kernel_rfl) (fun _ => (Below.refl _ _).drew) (fun hHeld => ?_)
    refine Stg.wpAnyL_start (n' := 10) (l' := #[false, false, false, false, false, false, false, false, false, false]) (by kernel_rfl) (by kernel_rfl) ?_
    refine Stg.wpAnyL_free (i := 0) (v := ?_) 0 rfl (by kernel_rfl) (by kernel_rfl) (by kernel_rfl) (by kernel_rfl) (by kernel_rfl) (fun _ _ _ h => h) (Or.inl ⟨by kernel_rfl, ?_⟩) (by assumption) ?_
    rotate_left
    · intro u _
      try simp only [List.getElem_toArray, List.getElem_cons_succ, List.getElem_cons_zero]
      go_simp
      try with_reducible rfl
    try simp only [Act.put, List.setIfInBounds_toArray, List.set_cons_zero, List.set_cons_succ]
    refine Stg.wpAnyL_take (i := 1) (v := ?_) [7, 9] 0 rfl (by kernel_rfl) (by kernel_rfl) (by kernel_rfl) (by kernel_rfl) (by kernel_rfl) (fun _ _ _ h => h) (Or.inl ⟨by kernel_rfl, ?_⟩) (by assumption) ?_
    rotate_left
    · intro u hSu
      skip
      have sB := hSu rfl
      have y0 := cellB sB p0
      have y1 := cellB sB p1
      have y2 := cellB sB p2
      try simp only [List.getElem_toArray, List.getElem_cons_succ, List.getElem_cons_zero]
      go_simp
      try with_reducible rfl
    try simp only [Act.put, List.setIfInBounds_toArray, List.set_cons_zero, List.set_cons_succ]
    refine Stg.wpAnyL_free (i := 2) (v := ?_) 0 rfl (by kernel_rfl) (by kernel_rfl) (by kernel_rfl) (by kernel_rfl) (by kernel_rfl) (fun _ _ _ h => h) (Or.inl ⟨by kernel_rfl, ?_⟩) (by assumption) ?_
    rotate_left
    · intro u _
      try simp only [List.getElem_toArray, List.getElem_cons_succ, List.getElem_cons_zero]
      go_simp
      try with_reducible rfl
    try simp only [Act.put, List.setIfInBounds_toArray, List.set_cons_zero, List.set_cons_succ]
    refine Stg.wpAnyL_start (n' := 7) (l' := #[true, true, true, false, false, false, false, false, false, false]) (by kernel_rfl) (by kernel_rfl) ?_
    refine Stg.wpAnyL_take (i := 3) (v := ?_) [7, 9] 0 rfl (by kernel_rfl) (by kernel_rfl) (by kernel_rfl) (by kernel_rfl) (by kernel_rfl) (fun _ _ _ h => h) (Or.inl ⟨by kernel_rfl, ?_⟩) (by assumption) ?_
    rotate_left
    · intro u hSu
      skip
      have sB := hSu rfl
      have y0 := cellB sB p0
      have y1 := cellB sB p1
      have y2 := cellB sB p2
      try simp only [List.getElem_toArray, List.getElem_cons_succ, List.getElem_cons_zero]
      go_simp
      try with_reducible rfl
    try simp only [Act.put, List.setIfInBounds_toArray, List.set_cons_zero, List.set_cons_succ]
    refine Stg.wpAnyL_free (i := 4) (v := ?_) 0 rfl (by kernel_rfl) (by kernel_rfl) (by kernel_rfl) (by kernel_rfl) (by kernel_rfl) (fun _ _ _ h => h) (Or.inl ⟨by kernel_rfl, ?_⟩) (by assumption) ?_
    rotate_left
    · intro u _
      try simp only [List.getElem_toArray, List.getElem_cons_succ, List.getElem_cons_zero]
      go_simp
      try with_reducible rfl
    try simp only [Act.put, List.setIfInBounds_toArray, List.set_cons_zero, List.set_cons_succ]
    refine Stg.wpAnyL_take (i := 5) (v := ?_) [6, 7, 9] 0 rfl (by kernel_rfl) (by kernel_rfl) (by kernel_rfl) (by kernel_rfl) (by kernel_rfl) (fun _ _ _ h => h) (Or.inl ⟨by kernel_rfl, ?_⟩) (by assumption) ?_
    rotate_left
    · intro u hSu
      skip
      have sB := hSu rfl
      have y0 := cellB sB p0
      have y1 := cellB sB p1
      have y2 := cellB sB p2
      try simp only [List.getElem_toArray, List.getElem_cons_succ, List.getElem_cons_zero]
      go_simp
      try with_reducible rfl
    try simp only [Act.put, List.setIfInBounds_toArray, List.set_cons_zero, List.set_cons_succ]
    refine Stg.wpAnyL_start (n' := 4) (l' := #[true, true, true, true, true, true, false, false, false, false]) (by kernel_rfl) (by kernel_rfl) ?_
    refine Stg.wpAnyL_two (i := 6) (k := 8) 0 0 rfl rfl (by kernel_rfl) (by kernel_rfl) (by kernel_rfl) (fun K hK => ?_) (fun K hK => ?_)
    · try simp only [List.getElem_toArray, List.getElem_cons_succ, List.getElem_cons_zero]
      go_simp
      refine (hcp.out _ (bNext hB2.out (hHeld rfl) (Nat.le_refl _))).mono ?_
      rintro e w6 ⟨a6, c6, rfl, hL6, hF6, hb1⟩
      refine hK.out _ _ ?_ (fun hHeld1 => ?_)
      · exact fun _ => bNext (hHeld rfl) hb1 (Nat.le_refl _)
      clear hK K
      try simp only [Act.put, List.setIfInBounds_toArray, List.set_cons_zero, List.set_cons_succ]
      refine Stg.wpAnyL_free (i := 7) (v := ?_) 0 rfl (by kernel_rfl) (by kernel_rfl) (by kernel_rfl) (by kernel_rfl) (by kernel_rfl) (fun _ _ _ h => h) (Or.inl ⟨by kernel_rfl, ?_⟩) (by assumption) ?_
      rotate_left
      · intro u _
        try simp only [List.getElem_toArray, List.getElem_cons_succ, List.getElem_cons_zero]
        go_simp
        try with_reducible rfl
      try simp only [Act.put, List.setIfInBounds_toArray, List.set_cons_zero, List.set_cons_succ]
      refine Stg.wpAnyL_one (i := 8) 0 rfl (by kernel_rfl) (by kernel_rfl) (fun K hK => ?_)
      try simp only [List.getElem_toArray, List.getElem_cons_succ, List.getElem_cons_zero]
      go_simp
      refine hK.out _ _ ?_ (fun hHeld2 => ?_)
      · exact fun _ => bNext (hHeld1 rfl) ((Below.refl _ _).alloc (Nat.le_refl _) _) (Nat.le_refl _)
      clear hK K
      try simp only [Act.put, List.setIfInBounds_toArray, List.set_cons_zero, List.set_cons_succ]
      refine Stg.wpAnyL_start (n' := 1) (l' := #[true, true, true, true, true, true, true, true, true, false]) (by kernel_rfl) (by kernel_rfl) ?_
      refine Stg.wpAnyL_one (i := 9) 1 rfl (by kernel_rfl) (by kernel_rfl) (fun K hK => ?_)
      have hd := (Below.refl w2.heap.size w2).drew
      have hbb := hd.trans (hb1.mono (by simp))
      have ha := (Below.refl w6.heap.size w6).alloc (Nat.le_refl _) (.cells #[.int .i64 b, .int .i64 t, .slice a6 n c6] 24)
      have hbc := bNext hbb ha (Nat.le_refl _)
      have cA := Lib.hid (blk_new w6 [.int .i64 b, .int .i64 t, .slice a6 n c6] 24)
      have cL := Lib.hid (hL6.bel ha)
      have cX := Lib.hid (bx2.out.bel hbc)
      have cS := Lib.hid (rs2.out.bel hbc)
      have cB := Lib.hid (bNext hB2.out hbc (Nat.le_refl _))
      have cF := Lib.hid (hF6.mono (show w.heap.size + 2 ≤ w2.drew.heap.size by simp; omega))
      have cz := hbb.size
      clear hd hbb ha hbc hL6 hF6
      try simp only [List.getElem_toArray, List.getElem_cons_succ, List.getElem_cons_zero]
      go_simp
      refine hK.out _ _ ?_ (fun hHeld3 => ?_)
      · exact fun h => absurd h (by decide)
      clear hK K
      try simp only [Act.put, List.setIfInBounds_toArray, List.set_cons_zero, List.set_cons_succ]
      refine Stg.wpAnyL_done (by kernel_rfl) ?_ _
      try simp only [List.getElem_toArray, List.getElem_cons_succ, List.getElem_cons_zero]
      try simp only [Act.put, List.setIfInBounds_toArray, List.set_cons_zero, List.set_cons_succ]
      refine NoPanic.normal ?_
      go_wp2_with fail
      go_meet
      exact ⟨_, _, _, rfl, cA.out, (by omega), cL.out, cF.out, cX.out, cS.out, cB.out⟩
    · try simp only [List.getElem_toArray, List.getElem_cons_succ, List.getElem_cons_zero]
      go_simp
      refine hK.out _ _ ?_ (fun hHeld1 => ?_)
      · exact fun _ => bNext (hHeld rfl) ((Below.refl _ _).alloc (Nat.le_refl _) _) (Nat.le_refl _)
      clear hK K
      try simp only [Act.put, List.setIfInBounds_toArray, List.set_cons_zero, List.set_cons_succ]
      refine Stg.wpAnyL_one (i := 6) 0 rfl (by kernel_rfl) (by kernel_rfl) (fun K hK => ?_)
      try simp only [List.getElem_toArray, List.getElem_cons_succ, List.getElem_cons_zero]
      go_simp
      refine (hcp.out _ (bNext hB2.out (hHeld1 rfl) (Nat.le_refl _))).mono ?_
      rintro e w6 ⟨a6, c6, rfl, hL6, hF6, hb2⟩
      refine hK.out _ _ ?_ (fun hHeld2 => ?_)
      · exact fun _ => bNext (hHeld1 rfl) hb2 (Nat.le_refl _)
      clear hK K
      try simp only [Act.put, List.setIfInBounds_toArray, List.set_cons_zero, List.set_cons_succ]
      refine Stg.wpAnyL_free (i := 7) (v := ?_) 0 rfl (by kernel_rfl) (by kernel_rfl) (by kernel_rfl) (by kernel_rfl) (by kernel_rfl) (fun _ _ _ h => h) (Or.inl ⟨by kernel_rfl, ?_⟩) (by assumption) ?_
      rotate_left
      · intro u _
        try simp only [List.getElem_toArray, List.getElem_cons_succ, List.getElem_cons_zero]
        go_simp
        try with_reducible rfl
      try simp only [Act.put, List.setIfInBounds_toArray, List.set_cons_zero, List.set_cons_succ]
      refine Stg.wpAnyL_start (n' := 1) (l' := #[true, true, true, true, true, true, true, true, true, false]) (by kernel_rfl) (by kernel_rfl) ?_
      refine Stg.wpAnyL_one (i := 9) 1 rfl (by kernel_rfl) (by kernel_rfl) (fun K hK => ?_)
      have rA := (blk_new w2 [.int .i64 0, .int .i64 0, .slice none 0 0] 24).drew.bel hb2
      have r0 := rA.c 0 _ rfl
      have r1 := rA.c 1 _ rfl
      have r2 := rA.c 2 _ rfl
      have rf := rA.f 0
      have rf1 := rA.f 1
      have rf2 := rA.f 2
      have hF7 : Far (w2.heap.size + 1) a6 n := by simpa using hF6
      have ha := ((Below.refl w2.heap.size w2).alloc (Nat.le_refl _) (.cells #[.int .i64 0, .int .i64 0, .slice none 0 0] 24)).drew
      have hbb := ha.trans (hb2.mono (by simp))
      have cA := Lib.hid (blk_set3 rA (.int .i64 b) (.int .i64 t) (.slice a6 n c6))
      have cL := Lib.hid (hL6.set3 hF7 (show w2.heap.size < w2.heap.size + 1 by omega) rA (.int .i64 b) (.int .i64 t) (.slice a6 n c6))
      have cX := Lib.hid (blk_oth3 (bx2.out.bel hbb) (q := w2.heap.size) (by omega) (.int .i64 b) (.int .i64 t) (.slice a6 n c6))
      have cS := Lib.hid (blk_oth3 (rs2.out.bel hbb) (q := w2.heap.size) (by omega) (.int .i64 b) (.int .i64 t) (.slice a6 n c6))
      have cB := Lib.hid (below_set3 (bNext hB2.out hbb (Nat.le_refl _)) (b := w2.heap.size) (by omega) (.int .i64 b) (.int .i64 t) (.slice a6 n c6))
      have cF := Lib.hid (hF7.mono (show w.heap.size + 2 ≤ w2.heap.size + 1 by omega))
      clear rA ha hbb hL6 hF6 hF7
      try simp only [List.getElem_toArray, List.getElem_cons_succ, List.getElem_cons_zero]
      go_simp
      refine hK.out _ _ ?_ (fun hHeld3 => ?_)
      · exact fun h => absurd h (by decide)
      clear hK K
      try simp only [Act.put, List.setIfInBounds_toArray, List.set_cons_zero, List.set_cons_succ]
      refine Stg.wpAnyL_done (by kernel_rfl) ?_ _
      try simp only [List.getElem_toArray, List.getElem_cons_succ, List.getElem_cons_zero]
      try simp only [Act.put, List.setIfInBounds_toArray, List.set_cons_zero, List.set_cons_succ]
      refine NoPanic.normal ?_
      go_wp2_with fail
      go_meet
      exact ⟨_, _, _, rfl, cA.out, (by omega), cL.out, cF.out, cX.out, cS.out, cB.out⟩
  case rest =>
    obtain ⟨A, a5, c5, rfl, kA, hA2, kL, kF, kX, kS, kB⟩ := hcut
    have p0 := kX.c 0 _ rfl
    have p1 := kX.c 1 _ rfl
    have p2 := kX.c 2 _ rfl
    have hla2 := Lib.hid (hla.out _ _ kB p0 p1 p2)
    replace kA := Lib.hid kA
    replace kL := Lib.hid kL
    replace kF := Lib.hid kF
    replace kX := Lib.hid kX
    replace kS := Lib.hid kS
    replace kB := Lib.hid kB
    clear hla bx2 rs2 hB2 hcp
    go_wp2_with fail
    refine hla2.out.mono ?_
    rintro e w3 ⟨rfl, hb3⟩
    have kX3 := kX.out.bel hb3
    have p0 := kX3.c 0 _ rfl
    have p1 := kX3.c 1 _ rfl
    have p2 := kX3.c 2 _ rfl
    have kB3 := Lib.hid (bNext kB.out hb3 (Nat.le_refl _))
    have kA3 := Lib.hid (kA.out.bel hb3)
    have kL3 := Lib.hid (kL.out.bel hb3)
    have kS3 := Lib.hid (kS.out.bel hb3)
    replace kX3 := Lib.hid kX3
    clear hb3 kA kL kX kS kB hla2
    go_wp2_with fail
    refine (htm.out _ kB3.out).mono ?_
    rintro e w4 ⟨rfl, hb4⟩
    have kX4 := kX3.out.bel hb4
    have p0 := kX4.c 0 _ rfl
    have p1 := kX4.c 1 _ rfl
    have p2 := kX4.c 2 _ rfl
    have kB4 := Lib.hid (bNext kB3.out hb4 (Nat.le_refl _))
    have kA4 := kA3.out.bel hb4
    have z0 := kA4.c 0 _ rfl
    have z1 := kA4.c 1 _ rfl
    have z2 := kA4.c 2 _ rfl
    have kL4 := Lib.hid (kL3.out.bel hb4)
    have kS4 := kS3.out.bel hb4
    have r0 := kS4.c 0 _ rfl
    have r1 := kS4.c 1 _ rfl
    have r2 := kS4.c 2 _ rfl
    have rf := kS4.f 0
    have rf1 := kS4.f 1
    have rf2 := kS4.f 2
    replace kX4 := Lib.hid kX4
    replace kA4 := Lib.hid kA4
    replace kS4 := Lib.hid kS4
    clear hb4 kA3 kL3 kX3 kS3 kB3 htm
    have rs4 := blk_set3 kS4.out (.int .i64 b) (.int .i64 t) (.slice a5 n c5)
    have s0 := Lib.hid (rs4.c 0 _ rfl)
    have s1 := Lib.hid (rs4.c 1 _ rfl)
    have s2 := Lib.hid (rs4.c 2 _ rfl)
    have hL5 := Lib.hid (kL4.out.set3 kF.out (show w.heap.size + 1 < w.heap.size + 2 by omega) kS4.out (.int .i64 b) (.int .i64 t) (.slice a5 n c5))
    have hB5 := Lib.hid (below_set3 kB4.out (show w.heap.size ≤ w.heap.size + 1 by omega) (.int .i64 b) (.int .i64 t) (.slice a5 n c5))
    clear rs4
    go_upto_block 1 with fail
    go_cut [1, 3, 9] (fun s1 s3 s9 wx => PutD w b t a n c l i τ l2 s1 s3 s9 wx)
    case first =>
      by_cases hE : b + (l.length : Int) < i
      · have hm := Lib.hid (show putR b t l i τ l2 = ⟨⟨b, t, l, 0⟩, b + l.length, false⟩ by
          unfold putR
          rw [if_neg (by simp [HC.out]), if_neg (by simp [HC2.out]; omega), if_pos hE])
        go_wp2_with fail
        try rw [Exit.noGoto_ret]
        refine bodyPost_ret (v := .tuple #[.agg #[.int .i64 b, .int .i64 t, .slice a5 n c5], .int .i64 (b + l.length), .bool false, .int .i64 0]) (by simp [results, Try.results10, go_sem, s0.out, s1.out, s2.out]) rfl ?_
        rw [hm.out]
        exact ⟨_, _, _, rfl, hL5.out, hB5.out⟩
      have kD := (Below.refl w4.heap.size w4).drew
      have kX5 := Lib.hid (kX4.out.bel kD)
      have kA5 := Lib.hid (kA4.out.bel kD)
      have kS5 := Lib.hid (kS4.out.bel kD)
      have kB5 := Lib.hid (bNext kB4.out kD (Nat.le_refl _))
      have kL5 := Lib.hid (kL4.out.bel kD)
      clear kD
      have hlE := hnl.out
      have hlm := hml.out
      by_cases h1 : i < b
      · by_cases h3 : i + (m : Int) < b
        · have hm := Lib.hid (show putR b t l i τ l2 = ⟨⟨b, t, l, 0⟩, b, false⟩ by
            unfold putR
            rw [if_neg (by simp [HC.out]), if_neg (by simp [HC2.out]; omega), if_neg hE, if_pos (by omega)])
          have dE : decide (b + (l.length : Int) < i) = false := decide_eq_false hE
          have d1 : decide (i < b) = true := decide_eq_true h1
          have d3 : decide (i + (m : Int) < b) = true := decide_eq_true h3
          clear hlE hlm
          go_upto_region 12 with fail
          refine wp_region_noPanic ?_
          refine Stg.wp_region_L [] (fun _ u => Blk u w.heap.size [.int .i64 b, .int .i64 t, .slice a n c] ∧ Blk u A [.int .i64 b, .int .i64 t, .slice a5 n c5]) (by kernel_rfl) (⟨kX5.out, kA5.out⟩) (fun hHeld => ?_)
          refine Stg.wpAnyL_start (n' := 7) (l' := #[false, false, false, false, false, false, false]) (by kernel_rfl) (by kernel_rfl) ?_
          refine Stg.wpAnyL_take (i := 0) (v := ?_) [3, 4, 5, 6] 0 rfl (by kernel_rfl) (by kernel_rfl) (by kernel_rfl) (by kernel_rfl) (by kernel_rfl) (fun _ _ _ h => h) (Or.inl ⟨by kernel_rfl, ?_⟩) (by assumption) ?_
          rotate_left
          · intro u hSu
            obtain ⟨sX, sA⟩ := hSu
            have y0 := sX.c 0 _ rfl
            have y1 := sA.c 0 _ rfl
            have y2 := sA.c 1 _ rfl
            have y3 := sA.c 2 _ rfl
            try simp only [List.getElem_toArray, List.getElem_cons_succ, List.getElem_cons_zero]
            go_simp
            try with_reducible rfl
          try simp only [Act.put, List.setIfInBounds_toArray, List.set_cons_zero, List.set_cons_succ]
          refine Stg.wpAnyL_free (i := 1) (v := ?_) 0 rfl (by kernel_rfl) (by kernel_rfl) (by kernel_rfl) (by kernel_rfl) (by kernel_rfl) (fun _ _ _ h => h) (Or.inl ⟨by kernel_rfl, ?_⟩) (by assumption) ?_
          rotate_left
          · intro u _
            try simp only [List.getElem_toArray, List.getElem_cons_succ, List.getElem_cons_zero]
            go_simp
            try with_reducible rfl
          try simp only [Act.put, List.setIfInBounds_toArray, List.set_cons_zero, List.set_cons_succ]
          refine Stg.wpAnyL_take (i := 2) (v := ?_) [4, 5, 6] 0 rfl (by kernel_rfl) (by kernel_rfl) (by kernel_rfl) (by kernel_rfl) (by kernel_rfl) (fun _ _ _ h => h) (Or.inl ⟨by kernel_rfl, ?_⟩) (by assumption) ?_
          rotate_left
          · intro u hSu
            obtain ⟨sX, sA⟩ := hSu
            have y0 := sX.c 0 _ rfl
            have y1 := sA.c 0 _ rfl
            have y2 := sA.c 1 _ rfl
            have y3 := sA.c 2 _ rfl
            try simp only [List.getElem_toArray, List.getElem_cons_succ, List.getElem_cons_zero]
            go_simp
            try with_reducible rfl
          try simp only [Act.put, List.setIfInBounds_toArray, List.set_cons_zero, List.set_cons_succ]
          refine Stg.wpAnyL_start (n' := 4) (l' := #[true, true, true, false, false, false, false]) (by kernel_rfl) (by kernel_rfl) ?_
          refine Stg.wpAnyL_one (i := 3) 0 rfl (by kernel_rfl) (by kernel_rfl) (fun K hK => ?_)
          try simp only [List.getElem_toArray, List.getElem_cons_succ, List.getElem_cons_zero]
          go_simp
          refine hK.out _ _ ?_ (fun hHeld1 => ?_)
          · exact ⟨blk_oth3 (hHeld).1 (by omega) _ _ _, blk_oth3 (hHeld).2 (by omega) _ _ _⟩
          clear hK K
          try simp only [Act.put, List.setIfInBounds_toArray, List.set_cons_zero, List.set_cons_succ]
          refine Stg.wpAnyL_free (i := 4) (v := ?_) 0 rfl (by kernel_rfl) (by kernel_rfl) (by kernel_rfl) (by kernel_rfl) (by kernel_rfl) (fun _ _ _ h => h) (Or.inl ⟨by kernel_rfl, ?_⟩) (by assumption) ?_
          rotate_left
          · intro u _
            try simp only [List.getElem_toArray, List.getElem_cons_succ, List.getElem_cons_zero]
            go_simp
            try with_reducible rfl
          try simp only [Act.put, List.setIfInBounds_toArray, List.set_cons_zero, List.set_cons_succ]
          refine Stg.wpAnyL_free (i := 5) (v := ?_) 0 rfl (by kernel_rfl) (by kernel_rfl) (by kernel_rfl) (by kernel_rfl) (by kernel_rfl) (fun _ _ _ h => h) (Or.inl ⟨by kernel_rfl, ?_⟩) (by assumption) ?_
          rotate_left
          · intro u _
            try simp only [List.getElem_toArray, List.getElem_cons_succ, List.getElem_cons_zero]
            go_simp
            try with_reducible rfl
          try simp only [Act.put, List.setIfInBounds_toArray, List.set_cons_zero, List.set_cons_succ]
          refine Stg.wpAnyL_start (n' := 1) (l' := #[true, true, true, true, true, true, false]) (by kernel_rfl) (by kernel_rfl) ?_
          refine Stg.wpAnyL_free (i := 6) (v := ?_) 0 rfl (by kernel_rfl) (by kernel_rfl) (by kernel_rfl) (by kernel_rfl) (by kernel_rfl) (fun _ _ _ h => h) (Or.inl ⟨by kernel_rfl, ?_⟩) (by assumption) ?_
          rotate_left
          · intro u _
            try simp only [List.getElem_toArray, List.getElem_cons_succ, List.getElem_cons_zero]
            go_simp
            try with_reducible rfl
          try simp only [Act.put, List.setIfInBounds_toArray, List.set_cons_zero, List.set_cons_succ]
          refine Stg.wpAnyL_done (by kernel_rfl) ?_ _
          try simp only [List.getElem_toArray, List.getElem_cons_succ, List.getElem_cons_zero]
          try simp only [Act.put, List.setIfInBounds_toArray, List.set_cons_zero, List.set_cons_succ]
          refine NoPanic.normal ?_
          go_wp2_with fail
          try rw [Exit.noGoto_ret]
          refine bodyPost_ret (v := .tuple #[.agg #[.int .i64 b, .int .i64 t, .slice a5 n c5], .int .i64 b, .bool false, .int .i64 0]) (by simp [results, Try.results10, go_sem, s0.out, s1.out, s2.out]) rfl ?_
          rw [hm.out]
          exact ⟨_, _, _, rfl, hL5.out.bel (Below.refl _ _).drew, hB5.out.drew⟩
        · obtain ⟨q, hq⟩ : ∃ q : Nat, b - i = (q : Int) := ⟨(b - i).toNat, by omega⟩
          have hqm : q ≤ m := by omega
          have hm := Lib.hid (show putR b t l i τ l2 = putT (madeR b t (putL l (l2.drop q) 0)) (i + (l2.length : Int)) by
            unfold putR
            rw [if_neg (by simp [HC.out]), if_neg (by simp [HC2.out]; omega), if_neg hE, if_neg (by omega), if_pos h1, hq, Int.toNat_natCast])
          have dE : decide (b + (l.length : Int) < i) = false := decide_eq_false hE
          have d1 : decide (i < b) = true := decide_eq_true h1
          have d3 : decide (i + (m : Int) < b) = false := decide_eq_false h3
          have hM := Lib.hid ((H2.out.bel kB5.out).cut_all hqm)
          have hwq : IntKind.i64.wrap (q : Int) = (q : Int) := IntWalk.i64_in _ (by omega)
          have hqI : (q : Int) ≤ (m : Int) := by omega
          have hM16 := Lib.hid (show (l2.drop q).length ≤ 16 by simp; omega)
          have hs9 := Lib.hid (show (i + (m : Int)) = i + (l2.length : Int) by omega)
          clear hlE hlm
          go_upto_region 14 with fail
          refine wp_region_noPanic ?_
          refine Stg.wp_region_L [] (Bs.SB w4) (by kernel_rfl) (fun _ => (Below.refl _ _).drew) (fun hHeld => ?_)
          refine Stg.wpAnyL_start (n' := 10) (l' := #[false, false, false, false, false, false, false, false, false, false]) (by kernel_rfl) (by kernel_rfl) ?_
          refine Stg.wpAnyL_free (i := 0) (v := ?_) 0 rfl (by kernel_rfl) (by kernel_rfl) (by kernel_rfl) (by kernel_rfl) (by kernel_rfl) (fun _ _ _ h => h) (Or.inl ⟨by kernel_rfl, ?_⟩) (by assumption) ?_
          rotate_left
          · intro u _
            try simp only [List.getElem_toArray, List.getElem_cons_succ, List.getElem_cons_zero]
            go_simp
            try with_reducible rfl
          try simp only [Act.put, List.setIfInBounds_toArray, List.set_cons_zero, List.set_cons_succ]
          refine Stg.wpAnyL_free (i := 1) (v := ?_) 0 rfl (by kernel_rfl) (by kernel_rfl) (by kernel_rfl) (by kernel_rfl) (by kernel_rfl) (fun _ _ _ h => h) (Or.inl ⟨by kernel_rfl, ?_⟩) (by assumption) ?_
          rotate_left
          · intro u _
            try simp only [List.getElem_toArray, List.getElem_cons_succ, List.getElem_cons_zero]
            go_simp
            try with_reducible rfl
          try simp only [Act.put, List.setIfInBounds_toArray, List.set_cons_zero, List.set_cons_succ]
          refine Stg.wpAnyL_take (i := 2) (v := ?_) [4, 5, 8, 9] 0 rfl (by kernel_rfl) (by kernel_rfl) (by kernel_rfl) (by kernel_rfl) (by kernel_rfl) (fun _ _ _ h => h) (Or.inl ⟨by kernel_rfl, ?_⟩) (by assumption) ?_
          rotate_left
          · intro u hSu
            skip
            have sB := hSu rfl
            have y0 := cellB sB p0
            have y1 := cellB sB p1
            have y2 := cellB sB p2
            try simp only [List.getElem_toArray, List.getElem_cons_succ, List.getElem_cons_zero]
            go_simp
            try with_reducible rfl
          try simp only [Act.put, List.setIfInBounds_toArray, List.set_cons_zero, List.set_cons_succ]
          refine Stg.wpAnyL_start (n' := 7) (l' := #[true, true, true, false, false, false, false, false, false, false]) (by kernel_rfl) (by kernel_rfl) ?_
          refine Stg.wpAnyL_free (i := 3) (v := ?_) 0 rfl (by kernel_rfl) (by kernel_rfl) (by kernel_rfl) (by kernel_rfl) (by kernel_rfl) (fun _ _ _ h => h) (Or.inl ⟨by kernel_rfl, ?_⟩) (by assumption) ?_
          rotate_left
          · intro u _
            try simp only [List.getElem_toArray, List.getElem_cons_succ, List.getElem_cons_zero]
            go_simp
            try with_reducible rfl
          try simp only [Act.put, List.setIfInBounds_toArray, List.set_cons_zero, List.set_cons_succ]
          refine Stg.wpAnyL_free (i := 4) (v := ?_) 0 rfl (by kernel_rfl) (by kernel_rfl) (by kernel_rfl) (by kernel_rfl) (by kernel_rfl) (fun _ _ _ h => h) (Or.inl ⟨by kernel_rfl, ?_⟩) (by assumption) ?_
          rotate_left
          · intro u _
            try simp only [List.getElem_toArray, List.getElem_cons_succ, List.getElem_cons_zero]
            go_simp
            try with_reducible rfl
          try simp only [Act.put, List.setIfInBounds_toArray, List.set_cons_zero, List.set_cons_succ]
          refine Stg.wpAnyL_free (i := 5) (v := ?_) 0 rfl (by kernel_rfl) (by kernel_rfl) (by kernel_rfl) (by kernel_rfl) (by kernel_rfl) (fun _ _ _ h => h) (Or.inl ⟨by kernel_rfl, ?_⟩) (by assumption) ?_
          rotate_left
          · intro u _
            try simp only [List.getElem_toArray, List.getElem_cons_succ, List.getElem_cons_zero]
            go_simp
            try with_reducible rfl
          try simp only [Act.put, List.setIfInBounds_toArray, List.set_cons_zero, List.set_cons_succ]
          refine Stg.wpAnyL_start (n' := 4) (l' := #[true, true, true, true, true, true, false, false, false, false]) (by kernel_rfl) (by kernel_rfl) ?_
          refine Stg.wpAnyL_free (i := 6) (v := ?_) 0 rfl (by kernel_rfl) (by kernel_rfl) (by kernel_rfl) (by kernel_rfl) (by kernel_rfl) (fun _ _ _ h => h) (Or.inl ⟨by kernel_rfl, ?_⟩) (by assumption) ?_
          rotate_left
          · intro u _
            try simp only [List.getElem_toArray, List.getElem_cons_succ, List.getElem_cons_zero]
            go_simp
            try with_reducible rfl
          try simp only [Act.put, List.setIfInBounds_toArray, List.set_cons_zero, List.set_cons_succ]
          refine Stg.wpAnyL_take (i := 7) (v := ?_) [9] 0 rfl (by kernel_rfl) (by kernel_rfl) (by kernel_rfl) (by kernel_rfl) (by kernel_rfl) (fun _ _ _ h => h) (Or.inl ⟨by kernel_rfl, ?_⟩) (by assumption) ?_
          rotate_left
          · intro u hSu
            skip
            have sB := hSu rfl
            have y0 := cellB sB p0
            have y1 := cellB sB p1
            have y2 := cellB sB p2
            try simp only [List.getElem_toArray, List.getElem_cons_succ, List.getElem_cons_zero]
            go_simp
            try with_reducible rfl
          try simp only [Act.put, List.setIfInBounds_toArray, List.set_cons_zero, List.set_cons_succ]
          refine Stg.wpAnyL_free (i := 8) (v := ?_) 0 rfl (by kernel_rfl) (by kernel_rfl) (by kernel_rfl) (by kernel_rfl) (by kernel_rfl) (fun _ _ _ h => h) (Or.inl ⟨by kernel_rfl, ?_⟩) (by assumption) ?_
          rotate_left
          · intro u _
            try simp only [List.getElem_toArray, List.getElem_cons_succ, List.getElem_cons_zero]
            go_simp
            try with_reducible rfl
          try simp only [Act.put, List.setIfInBounds_toArray, List.set_cons_zero, List.set_cons_succ]
          refine Stg.wpAnyL_start (n' := 1) (l' := #[true, true, true, true, true, true, true, true, true, false]) (by kernel_rfl) (by kernel_rfl) ?_
          refine Stg.wpAnyL_free (i := 9) (v := ?_) 0 rfl (by kernel_rfl) (by kernel_rfl) (by kernel_rfl) (by kernel_rfl) (by kernel_rfl) (fun _ _ _ h => h) (Or.inl ⟨by kernel_rfl, ?_⟩) (by assumption) ?_
          rotate_left
          · intro u _
            try simp only [List.getElem_toArray, List.getElem_cons_succ, List.getElem_cons_zero]
            go_simp
            try with_reducible rfl
          try simp only [Act.put, List.setIfInBounds_toArray, List.set_cons_zero, List.set_cons_succ]
          refine Stg.wpAnyL_done (by kernel_rfl) ?_ _
          try simp only [List.getElem_toArray, List.getElem_cons_succ, List.getElem_cons_zero]
          try simp only [Act.put, List.setIfInBounds_toArray, List.set_cons_zero, List.set_cons_succ]
          refine NoPanic.normal ?_
          go_wp2_with fail
          go_meet
          exact ⟨0, l2.drop q, _, _, _, (by simp), rfl, (by rw [← hs9.out]), hM.out, Nat.zero_le _, hM16.out, (fun y hy => List.mem_of_mem_drop hy), hm.out, kX5.out, kS5.out, kB5.out⟩
      · by_cases h3 : termT b t l i = τ
        · obtain ⟨q, hq⟩ : ∃ q : Nat, i - b = (q : Int) := ⟨(i - b).toNat, by omega⟩
          have hqn : q ≤ n := by omega
          have hm := Lib.hid (show putR b t l i τ l2 = putT (madeR b t (putL l l2 q)) (i + (l2.length : Int)) by
            unfold putR
            rw [if_neg (by simp [HC.out]), if_neg (by simp [HC2.out]; omega), if_neg hE, if_neg (by omega), if_neg h1, if_neg (by simp [h3]), hq, Int.toNat_natCast])
          have dE : decide (b + (l.length : Int) < i) = false := decide_eq_false hE
          have d1 : decide (i < b) = false := decide_eq_false h1
          have d3 : (termT b t l i == τ) = true := by simpa using h3
          have d3' : (termT b t l i != τ) = false := by simpa using h3
          have hs9 := Lib.hid (show (i + (m : Int)) = i + (l2.length : Int) by omega)
          have hs1 := Lib.hid (show i = b + (q : Int) by omega)
          have kL2 := Lib.hid (H2.out.bel kB4.out)
          have hM16 := Lib.hid h16
          replace h3 := Lib.hid h3
          clear hlE hlm hq
          go_wp2_with fail
          go_meet
          exact ⟨q, l2, _, _, _, (by rw [← hs1.out]), rfl, (by rw [← hs9.out]), kL2.out, hqn, hM16.out, (fun y hy => hy), hm.out, kX4.out, kS4.out, kB4.out⟩
        · have hm := Lib.hid (show putR b t l i τ l2 = ⟨⟨b, t, l, 0⟩, max (i - 1) b, false⟩ by
            unfold putR
            rw [if_neg (by simp [HC.out]), if_neg (by simp [HC2.out]; omega), if_neg hE, if_neg (by omega), if_neg h1, if_pos h3])
          have dE : decide (b + (l.length : Int) < i) = false := decide_eq_false hE
          have d1 : decide (i < b) = false := decide_eq_false h1
          have d3 : (termT b t l i == τ) = false := by simpa using h3
          have d3' : (termT b t l i != τ) = true := by simpa using h3
          have hw1 : IntKind.i64.wrap (i - 1) = i - 1 := IntWalk.i64_in _ (by omega)
          replace h3 := Lib.hid h3
          clear hlE hlm
          go_upto_region 16 with fail
          refine wp_region_noPanic ?_
          refine Stg.wp_region_L [] (fun _ u => Blk u w.heap.size [.int .i64 b, .int .i64 t, .slice a n c] ∧ Blk u A [.int .i64 b, .int .i64 t, .slice a5 n c5]) (by kernel_rfl) (⟨kX5.out, kA5.out⟩) (fun hHeld => ?_)
          refine Stg.wpAnyL_start (n' := 10) (l' := #[false, false, false, false, false, false, false, false, false, false]) (by kernel_rfl) (by kernel_rfl) ?_
          refine Stg.wpAnyL_take (i := 0) (v := ?_) [6, 7, 8, 9] 0 rfl (by kernel_rfl) (by kernel_rfl) (by kernel_rfl) (by kernel_rfl) (by kernel_rfl) (fun _ _ _ h => h) (Or.inl ⟨by kernel_rfl, ?_⟩) (by assumption) ?_
          rotate_left
          · intro u hSu
            obtain ⟨sX, sA⟩ := hSu
            have y0 := sX.c 0 _ rfl
            have y1 := sA.c 0 _ rfl
            have y2 := sA.c 1 _ rfl
            have y3 := sA.c 2 _ rfl
            try simp only [List.getElem_toArray, List.getElem_cons_succ, List.getElem_cons_zero]
            go_simp
            try with_reducible rfl
          try simp only [Act.put, List.setIfInBounds_toArray, List.set_cons_zero, List.set_cons_succ]
          refine Stg.wpAnyL_free (i := 1) (v := ?_) 0 rfl (by kernel_rfl) (by kernel_rfl) (by kernel_rfl) (by kernel_rfl) (by kernel_rfl) (fun _ _ _ h => h) (Or.inl ⟨by kernel_rfl, ?_⟩) (by assumption) ?_
          rotate_left
          · intro u _
            try simp only [List.getElem_toArray, List.getElem_cons_succ, List.getElem_cons_zero]
            go_simp
            try with_reducible rfl
          try simp only [Act.put, List.setIfInBounds_toArray, List.set_cons_zero, List.set_cons_succ]
          refine Stg.wpAnyL_free (i := 2) (v := ?_) 0 rfl (by kernel_rfl) (by kernel_rfl) (by kernel_rfl) (by kernel_rfl) (by kernel_rfl) (fun _ _ _ h => h) (Or.inl ⟨by kernel_rfl, ?_⟩) (by assumption) ?_
          rotate_left
          · intro u _
            try simp only [List.getElem_toArray, List.getElem_cons_succ, List.getElem_cons_zero]
            go_simp
            try with_reducible rfl
          try simp only [Act.put, List.setIfInBounds_toArray, List.set_cons_zero, List.set_cons_succ]
          refine Stg.wpAnyL_start (n' := 7) (l' := #[true, true, true, false, false, false, false, false, false, false]) (by kernel_rfl) (by kernel_rfl) ?_
          refine Stg.wpAnyL_free (i := 3) (v := ?_) 0 rfl (by kernel_rfl) (by kernel_rfl) (by kernel_rfl) (by kernel_rfl) (by kernel_rfl) (fun _ _ _ h => h) (Or.inl ⟨by kernel_rfl, ?_⟩) (by assumption) ?_
          rotate_left
          · intro u _
            try simp only [List.getElem_toArray, List.getElem_cons_succ, List.getElem_cons_zero]
            go_simp
            try with_reducible rfl
          try simp only [Act.put, List.setIfInBounds_toArray, List.set_cons_zero, List.set_cons_succ]
          refine Stg.wpAnyL_take (i := 4) (v := ?_) [5, 7, 8, 9] 0 rfl (by kernel_rfl) (by kernel_rfl) (by kernel_rfl) (by kernel_rfl) (by kernel_rfl) (fun _ _ _ h => h) (Or.inl ⟨by kernel_rfl, ?_⟩) (by assumption) ?_
          rotate_left
          · intro u hSu
            obtain ⟨sX, sA⟩ := hSu
            have y0 := sX.c 0 _ rfl
            have y1 := sA.c 0 _ rfl
            have y2 := sA.c 1 _ rfl
            have y3 := sA.c 2 _ rfl
            try simp only [List.getElem_toArray, List.getElem_cons_succ, List.getElem_cons_zero]
            go_simp
            try with_reducible rfl
          try simp only [Act.put, List.setIfInBounds_toArray, List.set_cons_zero, List.set_cons_succ]
          refine Stg.wpAnyL_free (i := 5) (v := ?_) 0 rfl (by kernel_rfl) (by kernel_rfl) (by kernel_rfl) (by kernel_rfl) (by kernel_rfl) (fun _ _ _ h => h) (Or.inl ⟨by kernel_rfl, ?_⟩) (by assumption) ?_
          rotate_left
          · intro u _
            try simp only [List.getElem_toArray, List.getElem_cons_succ, List.getElem_cons_zero]
            go_simp
            try with_reducible rfl
          try simp only [Act.put, List.setIfInBounds_toArray, List.set_cons_zero, List.set_cons_succ]
          refine Stg.wpAnyL_start (n' := 4) (l' := #[true, true, true, true, true, true, false, false, false, false]) (by kernel_rfl) (by kernel_rfl) ?_
          refine Stg.wpAnyL_one (i := 6) 0 rfl (by kernel_rfl) (by kernel_rfl) (fun K hK => ?_)
          try simp only [List.getElem_toArray, List.getElem_cons_succ, List.getElem_cons_zero]
          go_simp
          refine hK.out _ _ ?_ (fun hHeld1 => ?_)
          · exact ⟨blk_oth3 (hHeld).1 (by omega) _ _ _, blk_oth3 (hHeld).2 (by omega) _ _ _⟩
          clear hK K
          try simp only [Act.put, List.setIfInBounds_toArray, List.set_cons_zero, List.set_cons_succ]
          refine Stg.wpAnyL_free (i := 7) (v := ?_) 0 rfl (by kernel_rfl) (by kernel_rfl) (by kernel_rfl) (by kernel_rfl) (by kernel_rfl) (fun _ _ _ h => h) (Or.inl ⟨by kernel_rfl, ?_⟩) (by assumption) ?_
          rotate_left
          · intro u _
            try simp only [List.getElem_toArray, List.getElem_cons_succ, List.getElem_cons_zero]
            go_simp
            try with_reducible rfl
          try simp only [Act.put, List.setIfInBounds_toArray, List.set_cons_zero, List.set_cons_succ]
          refine Stg.wpAnyL_free (i := 8) (v := ?_) 0 rfl (by kernel_rfl) (by kernel_rfl) (by kernel_rfl) (by kernel_rfl) (by kernel_rfl) (fun _ _ _ h => h) (Or.inl ⟨by kernel_rfl, ?_⟩) (by assumption) ?_
          rotate_left
          · intro u _
            try simp only [List.getElem_toArray, List.getElem_cons_succ, List.getElem_cons_zero]
            go_simp
            try with_reducible rfl
          try simp only [Act.put, List.setIfInBounds_toArray, List.set_cons_zero, List.set_cons_succ]
          refine Stg.wpAnyL_start (n' := 1) (l' := #[true, true, true, true, true, true, true, true, true, false]) (by kernel_rfl) (by kernel_rfl) ?_
          refine Stg.wpAnyL_free (i := 9) (v := ?_) 0 rfl (by kernel_rfl) (by kernel_rfl) (by kernel_rfl) (by kernel_rfl) (by kernel_rfl) (fun _ _ _ h => h) (Or.inl ⟨by kernel_rfl, ?_⟩) (by assumption) ?_
          rotate_left
          · intro u _
            try simp only [List.getElem_toArray, List.getElem_cons_succ, List.getElem_cons_zero]
            go_simp
            try with_reducible rfl
          try simp only [Act.put, List.setIfInBounds_toArray, List.set_cons_zero, List.set_cons_succ]
          refine Stg.wpAnyL_done (by kernel_rfl) ?_ _
          try simp only [List.getElem_toArray, List.getElem_cons_succ, List.getElem_cons_zero]
          try simp only [Act.put, List.setIfInBounds_toArray, List.set_cons_zero, List.set_cons_succ]
          refine NoPanic.normal ?_
          go_wp2_with fail
          try rw [Exit.noGoto_ret]
          refine bodyPost_ret (v := .tuple #[.agg #[.int .i64 b, .int .i64 t, .slice a5 n c5], .int .i64 (mx (i - 1) b), .bool false, .int .i64 0]) (by simp [results, Try.results10, go_sem, s0.out, s1.out, s2.out]) rfl ?_
          rw [hm.out, mx_eq]
          exact ⟨_, _, _, rfl, hL5.out.bel (Below.refl _ _).drew, hB5.out.drew⟩
    case rest =>
      obtain ⟨k0, M, aM, mM, cM, rfl, rfl, rfl, hM, hk0, hM16, hMs, hm, kX, kS, kB⟩ := hcut
      obtain ⟨w5, rfl⟩ : ∃ wo : World, wo = wc := ⟨_, rfl⟩
      obtain ⟨K, hK⟩ : ∃ K, matchN (l.drop k0) M = K := ⟨_, rfl⟩
      have hKin := matchN_in (l.drop k0) M
      have hKat := matchN_at (l.drop k0) M
      have hKle := matchN_le (l.drop k0) M
      have hput : putL l M k0 = if K < M.length then l.take (k0 + K) ++ M.drop K else l := by unfold putL; rw [hK]
      rw [hK] at hKin hKat hKle
      have hMl := hM.len
      have hml16 : mM ≤ 16 := by omega
      have hdl : (l.drop k0).length = n - k0 := by have := hnl.out; simp; omega
      have hKn : k0 + K ≤ n := by omega
      have hKm : K ≤ mM := by omega
      have p2 := kX.c 2 _ rfl
      have p0 := kX.c 0 _ rfl
      have hkk : b + (k0 : Int) - b = (k0 : Int) := by omega
      have hk0I : (k0 : Int) ≤ 4096 := by omega
      have hwM := Lib.hid (show Wfl M from fun y hy => hw2 y (hMs y hy))
      have hsM := Lib.hid (show Sml M from ⟨by omega, fun y hy => hsm2.out.2 y (hMs y hy)⟩)
      replace hM := Lib.hid hM
      replace hm := Lib.hid hm
      replace kX := Lib.hid kX
      replace kS := Lib.hid kS
      replace kB := Lib.hid kB
      replace hput := Lib.hid hput
      replace hKin := Lib.hid hKin
      replace hKat := Lib.hid hKat
      replace hMl := Lib.hid hMl
      replace hdl := Lib.hid hdl
      clear hMs hK hKle hM16 kA4 kL4 kX4 kS4 kB4 r0 r1 r2 rf rf1 rf2 z0 z1 z2 s0 s1 s2 hL5 hB5 hA2 kF
      go_wp2_with fail
      go_step3
      go_upto_block 2 with fail
      go_cut [3, 17] from 106 to 130 (fun s3 s17 wx => PutE w5 M mM K k0 s3 s17 wx)
      case first =>
        go_wp2_with fail
        go_loopw [3, 17] (fun s3 s17 wr => ∃ (j kk mj : Nat) (aj : Option Addr) (cj : Nat), j ≤ K ∧ kk = k0 + j ∧ mj + j = mM ∧ s3 = .slice aj mj cj ∧ s17 = .int .i64 (kk : Nat) ∧ LAt wr aj mj cj (M.drop j) ∧ Below w5.heap.size w5 wr) (fun s3 _ _ => sliLen s3)
        case atStart => exact ⟨0, k0, mM, _, _, Nat.zero_le _, rfl, rfl, rfl, rfl, hM.out, Below.refl _ _⟩
        case round =>
          obtain ⟨j, kk, mj, aj, cj, hj, hkj, hmj, rfl, rfl, hLj, hBj⟩ := hrel
          have y2 := cellB hBj p2
          have hjn : kk ≤ n := by omega
          have hkj5 : (kk : Int) ≤ 5000 := by omega
          have hmjI : (mj : Int) ≤ 16 := by omega
          by_cases hjK : j < K
          · obtain ⟨x, y, hx, hy, hxy⟩ := hKin.out j hjK
            have hx' : l[kk]? = some x := by rw [List.getElem?_drop] at hx; rw [hkj]; exact hx
            have hy' : (M.drop j)[0]? = some y := by rw [List.getElem?_drop]; simpa using hy
            obtain ⟨g, o, q, rfl, hg, hq, hhas⟩ := (H.out.bel (bNext kB.out hBj (Nat.le_refl _))).ent hx'
            obtain ⟨g', o', q', rfl, hg', hq', hhas'⟩ := hLj.ent hy'
            have x0 := hq.1
            have z0 := hq'.1
            rw [hhas.t, hxy] at x0
            rw [hhas'.t, Nat.zero_mul, Nat.add_zero] at z0
            have e1 : 0 < mj := by omega
            have e1I : (0 : Int) < (mj : Int) := by omega
            have e2 : kk < n := by omega
            have e2I : (kk : Int) < (n : Int) := by omega
            have hL2 := Lib.hid (show LAt (wr.drew) (cutA (some ⟨g', o', none⟩) 1 cj 5) (mj - 1) (cj - 1) (M.drop (j + 1)) by
              have q := (hLj.bel (Below.refl _ _).drew).cut_all (show 1 ≤ mj by omega)
              rw [List.drop_drop] at q
              exact q)
            have hB2 := Lib.hid (bNext hBj (Below.refl wr.heap.size wr).drew (Nat.le_refl _))
            have hcj : mj ≤ cj := hLj.le
            have h1m : (1 : Int) ≤ (mj : Int) := by omega
            replace hBj := Lib.hid hBj
            replace hLj := Lib.hid hLj
            have hkj' := Lib.hid hkj
            clear hx hy hx' hy' hq hq' hhas hhas' hxy hkj
            go_upto_region 19 with fail
            refine wp_region_noPanic ?_
            refine Stg.wp_region_L [] (Bs.SB wr) (by kernel_rfl) (fun _ => (Below.refl _ _).drew) (fun hHeld => ?_)
            refine Stg.wpAnyL_start (n' := 11) (l' := #[false, false, false, false, false, false, false, false, false, false, false]) (by kernel_rfl) (by kernel_rfl) ?_
            refine Stg.wpAnyL_free (i := 0) (v := ?_) 0 rfl (by kernel_rfl) (by kernel_rfl) (by kernel_rfl) (by kernel_rfl) (by kernel_rfl) (fun _ _ _ h => h) (Or.inl ⟨by kernel_rfl, ?_⟩) (by assumption) ?_
            rotate_left
            · intro u _
              try simp only [List.getElem_toArray, List.getElem_cons_succ, List.getElem_cons_zero]
              go_simp
              try with_reducible rfl
            try simp only [Act.put, List.setIfInBounds_toArray, List.set_cons_zero, List.set_cons_succ]
            refine Stg.wpAnyL_take (i := 1) (v := ?_) [3, 4, 5, 10] 0 rfl (by kernel_rfl) (by kernel_rfl) (by kernel_rfl) (by kernel_rfl) (by kernel_rfl) (fun _ _ _ h => h) (Or.inl ⟨by kernel_rfl, ?_⟩) (by assumption) ?_
            rotate_left
            · intro u hSu
              skip
              have sB := hSu rfl
              have y0 := cellB sB y2
              have y1 := cellB sB x0
              have y2 := cellB sB z0
              try simp only [List.getElem_toArray, List.getElem_cons_succ, List.getElem_cons_zero]
              go_simp
              try with_reducible rfl
            try simp only [Act.put, List.setIfInBounds_toArray, List.set_cons_zero, List.set_cons_succ]
            refine Stg.wpAnyL_free (i := 2) (v := ?_) 0 rfl (by kernel_rfl) (by kernel_rfl) (by kernel_rfl) (by kernel_rfl) (by kernel_rfl) (fun _ _ _ h => h) (Or.inl ⟨by kernel_rfl, ?_⟩) (by assumption) ?_
            rotate_left
            · intro u _
              try simp only [List.getElem_toArray, List.getElem_cons_succ, List.getElem_cons_zero]
              go_simp
              try with_reducible rfl
            try simp only [Act.put, List.setIfInBounds_toArray, List.set_cons_zero, List.set_cons_succ]
            refine Stg.wpAnyL_start (n' := 8) (l' := #[true, true, true, false, false, false, false, false, false, false, false]) (by kernel_rfl) (by kernel_rfl) ?_
            refine Stg.wpAnyL_free (i := 3) (v := ?_) 0 rfl (by kernel_rfl) (by kernel_rfl) (by kernel_rfl) (by kernel_rfl) (by kernel_rfl) (fun _ _ _ h => h) (Or.inl ⟨by kernel_rfl, ?_⟩) (by assumption) ?_
            rotate_left
            · intro u _
              try simp only [List.getElem_toArray, List.getElem_cons_succ, List.getElem_cons_zero]
              go_simp
              try with_reducible rfl
            try simp only [Act.put, List.setIfInBounds_toArray, List.set_cons_zero, List.set_cons_succ]
            refine Stg.wpAnyL_free (i := 4) (v := ?_) 0 rfl (by kernel_rfl) (by kernel_rfl) (by kernel_rfl) (by kernel_rfl) (by kernel_rfl) (fun _ _ _ h => h) (Or.inl ⟨by kernel_rfl, ?_⟩) (by assumption) ?_
            rotate_left
            · intro u _
              try simp only [List.getElem_toArray, List.getElem_cons_succ, List.getElem_cons_zero]
              go_simp
              try with_reducible rfl
            try simp only [Act.put, List.setIfInBounds_toArray, List.set_cons_zero, List.set_cons_succ]
            refine Stg.wpAnyL_take (i := 5) (v := ?_) [10] 0 rfl (by kernel_rfl) (by kernel_rfl) (by kernel_rfl) (by kernel_rfl) (by kernel_rfl) (fun _ _ _ h => h) (Or.inl ⟨by kernel_rfl, ?_⟩) (by assumption) ?_
            rotate_left
            · intro u hSu
              skip
              have sB := hSu rfl
              have y0 := cellB sB y2
              have y1 := cellB sB x0
              have y2 := cellB sB z0
              try simp only [List.getElem_toArray, List.getElem_cons_succ, List.getElem_cons_zero]
              go_simp
              try with_reducible rfl
            try simp only [Act.put, List.setIfInBounds_toArray, List.set_cons_zero, List.set_cons_succ]
            refine Stg.wpAnyL_start (n' := 5) (l' := #[true, true, true, true, true, true, false, false, false, false, false]) (by kernel_rfl) (by kernel_rfl) ?_
            refine Stg.wpAnyL_free (i := 6) (v := ?_) 0 rfl (by kernel_rfl) (by kernel_rfl) (by kernel_rfl) (by kernel_rfl) (by kernel_rfl) (fun _ _ _ h => h) (Or.inl ⟨by kernel_rfl, ?_⟩) (by assumption) ?_
            rotate_left
            · intro u _
              try simp only [List.getElem_toArray, List.getElem_cons_succ, List.getElem_cons_zero]
              go_simp
              try with_reducible rfl
            try simp only [Act.put, List.setIfInBounds_toArray, List.set_cons_zero, List.set_cons_succ]
            refine Stg.wpAnyL_free (i := 7) (v := ?_) 0 rfl (by kernel_rfl) (by kernel_rfl) (by kernel_rfl) (by kernel_rfl) (by kernel_rfl) (fun _ _ _ h => h) (Or.inl ⟨by kernel_rfl, ?_⟩) (by assumption) ?_
            rotate_left
            · intro u _
              try simp only [List.getElem_toArray, List.getElem_cons_succ, List.getElem_cons_zero]
              go_simp
              try with_reducible rfl
            try simp only [Act.put, List.setIfInBounds_toArray, List.set_cons_zero, List.set_cons_succ]
            refine Stg.wpAnyL_free (i := 8) (v := ?_) 0 rfl (by kernel_rfl) (by kernel_rfl) (by kernel_rfl) (by kernel_rfl) (by kernel_rfl) (fun _ _ _ h => h) (Or.inl ⟨by kernel_rfl, ?_⟩) (by assumption) ?_
            rotate_left
            · intro u _
              try simp only [List.getElem_toArray, List.getElem_cons_succ, List.getElem_cons_zero]
              go_simp
              try with_reducible rfl
            try simp only [Act.put, List.setIfInBounds_toArray, List.set_cons_zero, List.set_cons_succ]
            refine Stg.wpAnyL_start (n' := 2) (l' := #[true, true, true, true, true, true, true, true, true, false, false]) (by kernel_rfl) (by kernel_rfl) ?_
            refine Stg.wpAnyL_take (i := 9) (v := ?_) [10] 0 rfl (by kernel_rfl) (by kernel_rfl) (by kernel_rfl) (by kernel_rfl) (by kernel_rfl) (fun _ _ _ h => h) (Or.inl ⟨by kernel_rfl, ?_⟩) (by assumption) ?_
            rotate_left
            · intro u hSu
              skip
              have sB := hSu rfl
              have y0 := cellB sB y2
              have y1 := cellB sB x0
              have y2 := cellB sB z0
              try simp only [List.getElem_toArray, List.getElem_cons_succ, List.getElem_cons_zero]
              go_simp
              try with_reducible rfl
            try simp only [Act.put, List.setIfInBounds_toArray, List.set_cons_zero, List.set_cons_succ]
            refine Stg.wpAnyL_free (i := 10) (v := ?_) 0 rfl (by kernel_rfl) (by kernel_rfl) (by kernel_rfl) (by kernel_rfl) (by kernel_rfl) (fun _ _ _ h => h) (Or.inl ⟨by kernel_rfl, ?_⟩) (by assumption) ?_
            rotate_left
            · intro u _
              try simp only [List.getElem_toArray, List.getElem_cons_succ, List.getElem_cons_zero]
              go_simp
              try with_reducible rfl
            try simp only [Act.put, List.setIfInBounds_toArray, List.set_cons_zero, List.set_cons_succ]
            refine Stg.wpAnyL_done (by kernel_rfl) ?_ _
            try simp only [List.getElem_toArray, List.getElem_cons_succ, List.getElem_cons_zero]
            try simp only [Act.put, List.setIfInBounds_toArray, List.set_cons_zero, List.set_cons_succ]
            refine NoPanic.normal ?_
            go_wp2_with fail
            go_roundw
            case rel => exact ⟨j + 1, kk + 1, mj - 1, _, _, by omega, by have := hkj'.out; omega, by omega, rfl, by go_num, hL2.out, hB2.out⟩
            case measure => simp [sliLen]; omega
          · obtain rfl : j = K := by omega
            by_cases c1 : mj = 0
            · subst c1
              have hP := Lib.hid (show PutE w5 M mM j k0 (.slice aj 0 cj) (.int .i64 (kk : Nat)) wr from ⟨_, _, _, _, rfl, rfl, hkj, by omega, hLj, hBj⟩)
              replace hBj := Lib.hid hBj
              replace hLj := Lib.hid hLj
              clear hkj
              go_wp2_with fail
              go_meet
              exact hP.out
            have e1 : 0 < mj := by omega
            have e1I : (0 : Int) < (mj : Int) := by omega
            by_cases c2 : kk = n
            · have hP := Lib.hid (show PutE w5 M mM j k0 (.slice aj mj cj) (.int .i64 (kk : Nat)) wr from ⟨_, _, _, _, rfl, rfl, hkj, by omega, hLj, hBj⟩)
              have e2 : ¬ kk < n := by omega
              have e2I : ¬ (kk : Int) < (n : Int) := by omega
              replace hBj := Lib.hid hBj
              replace hLj := Lib.hid hLj
              clear c2 hkj
              go_wp2_with fail
              go_meet
              exact hP.out
            · have hx1 : (l.drop k0)[j]? ≠ none := fun e => by have := List.getElem?_eq_none_iff.1 e; have := hdl.out; omega
              have hy1 : M[j]? ≠ none := fun e => by have := List.getElem?_eq_none_iff.1 e; have := hMl.out; omega
              obtain ⟨x, y, hx, hy, hxy⟩ := (hKat.out.resolve_left hx1).resolve_left hy1
              have hx' : l[kk]? = some x := by rw [List.getElem?_drop] at hx; rw [hkj]; exact hx
              have hy' : (M.drop j)[0]? = some y := by rw [List.getElem?_drop]; simpa using hy
              obtain ⟨g, o, q, rfl, hg, hq, hhas⟩ := (H.out.bel (bNext kB.out hBj (Nat.le_refl _))).ent hx'
              obtain ⟨g', o', q', rfl, hg', hq', hhas'⟩ := hLj.ent hy'
              have x0 := hq.1
              have z0 := hq'.1
              rw [hhas.t] at x0
              rw [hhas'.t, Nat.zero_mul, Nat.add_zero] at z0
              have e2 : kk < n := by omega
              have e2I : (kk : Int) < (n : Int) := by omega
              have hb1 : (x.term == y.term) = false := by simpa using hxy
              have hb2 : (x.term != y.term) = true := by simpa using hxy
              have hP := Lib.hid (show PutE w5 M mM j k0 (.slice (some ⟨g', o', none⟩) mj cj) (.int .i64 (kk : Nat)) wr.drew from ⟨_, _, _, _, rfl, rfl, hkj, by omega, hLj.bel (Below.refl _ _).drew, bNext hBj (Below.refl wr.heap.size wr).drew (Nat.le_refl _)⟩)
              replace hBj := Lib.hid hBj
              replace hLj := Lib.hid hLj
              clear hx hy hx' hy' hq hq' hhas hhas' hxy hx1 hy1 c2 hkj
              go_upto_region 19 with fail
              refine wp_region_noPanic ?_
              refine Stg.wp_region_L [] (Bs.SB wr) (by kernel_rfl) (fun _ => (Below.refl _ _).drew) (fun hHeld => ?_)
              refine Stg.wpAnyL_start (n' := 11) (l' := #[false, false, false, false, false, false, false, false, false, false, false]) (by kernel_rfl) (by kernel_rfl) ?_
              refine Stg.wpAnyL_free (i := 0) (v := ?_) 0 rfl (by kernel_rfl) (by kernel_rfl) (by kernel_rfl) (by kernel_rfl) (by kernel_rfl) (fun _ _ _ h => h) (Or.inl ⟨by kernel_rfl, ?_⟩) (by assumption) ?_
              rotate_left
              · intro u _
                try simp only [List.getElem_toArray, List.getElem_cons_succ, List.getElem_cons_zero]
                go_simp
                try with_reducible rfl
              try simp only [Act.put, List.setIfInBounds_toArray, List.set_cons_zero, List.set_cons_succ]
              refine Stg.wpAnyL_take (i := 1) (v := ?_) [3, 4, 5, 10] 0 rfl (by kernel_rfl) (by kernel_rfl) (by kernel_rfl) (by kernel_rfl) (by kernel_rfl) (fun _ _ _ h => h) (Or.inl ⟨by kernel_rfl, ?_⟩) (by assumption) ?_
              rotate_left
              · intro u hSu
                skip
                have sB := hSu rfl
                have y0 := cellB sB y2
                have y1 := cellB sB x0
                have y2 := cellB sB z0
                try simp only [List.getElem_toArray, List.getElem_cons_succ, List.getElem_cons_zero]
                go_simp
                try with_reducible rfl
              try simp only [Act.put, List.setIfInBounds_toArray, List.set_cons_zero, List.set_cons_succ]
              refine Stg.wpAnyL_free (i := 2) (v := ?_) 0 rfl (by kernel_rfl) (by kernel_rfl) (by kernel_rfl) (by kernel_rfl) (by kernel_rfl) (fun _ _ _ h => h) (Or.inl ⟨by kernel_rfl, ?_⟩) (by assumption) ?_
              rotate_left
              · intro u _
                try simp only [List.getElem_toArray, List.getElem_cons_succ, List.getElem_cons_zero]
                go_simp
                try with_reducible rfl
              try simp only [Act.put, List.setIfInBounds_toArray, List.set_cons_zero, List.set_cons_succ]
              refine Stg.wpAnyL_start (n' := 8) (l' := #[true, true, true, false, false, false, false, false, false, false, false]) (by kernel_rfl) (by kernel_rfl) ?_
              refine Stg.wpAnyL_free (i := 3) (v := ?_) 0 rfl (by kernel_rfl) (by kernel_rfl) (by kernel_rfl) (by kernel_rfl) (by kernel_rfl) (fun _ _ _ h => h) (Or.inl ⟨by kernel_rfl, ?_⟩) (by assumption) ?_
              rotate_left
              · intro u _
                try simp only [List.getElem_toArray, List.getElem_cons_succ, List.getElem_cons_zero]
                go_simp
                try with_reducible rfl
              try simp only [Act.put, List.setIfInBounds_toArray, List.set_cons_zero, List.set_cons_succ]
              refine Stg.wpAnyL_free (i := 4) (v := ?_) 0 rfl (by kernel_rfl) (by kernel_rfl) (by kernel_rfl) (by kernel_rfl) (by kernel_rfl) (fun _ _ _ h => h) (Or.inl ⟨by kernel_rfl, ?_⟩) (by assumption) ?_
              rotate_left
              · intro u _
                try simp only [List.getElem_toArray, List.getElem_cons_succ, List.getElem_cons_zero]
                go_simp
                try with_reducible rfl
              try simp only [Act.put, List.setIfInBounds_toArray, List.set_cons_zero, List.set_cons_succ]
              refine Stg.wpAnyL_take (i := 5) (v := ?_) [10] 0 rfl (by kernel_rfl) (by kernel_rfl) (by kernel_rfl) (by kernel_rfl) (by kernel_rfl) (fun _ _ _ h => h) (Or.inl ⟨by kernel_rfl, ?_⟩) (by assumption) ?_
              rotate_left
              · intro u hSu
                skip
                have sB := hSu rfl
                have y0 := cellB sB y2
                have y1 := cellB sB x0
                have y2 := cellB sB z0
                try simp only [List.getElem_toArray, List.getElem_cons_succ, List.getElem_cons_zero]
                go_simp
                try with_reducible rfl
              try simp only [Act.put, List.setIfInBounds_toArray, List.set_cons_zero, List.set_cons_succ]
              refine Stg.wpAnyL_start (n' := 5) (l' := #[true, true, true, true, true, true, false, false, false, false, false]) (by kernel_rfl) (by kernel_rfl) ?_
              refine Stg.wpAnyL_free (i := 6) (v := ?_) 0 rfl (by kernel_rfl) (by kernel_rfl) (by kernel_rfl) (by kernel_rfl) (by kernel_rfl) (fun _ _ _ h => h) (Or.inl ⟨by kernel_rfl, ?_⟩) (by assumption) ?_
              rotate_left
              · intro u _
                try simp only [List.getElem_toArray, List.getElem_cons_succ, List.getElem_cons_zero]
                go_simp
                try with_reducible rfl
              try simp only [Act.put, List.setIfInBounds_toArray, List.set_cons_zero, List.set_cons_succ]
              refine Stg.wpAnyL_free (i := 7) (v := ?_) 0 rfl (by kernel_rfl) (by kernel_rfl) (by kernel_rfl) (by kernel_rfl) (by kernel_rfl) (fun _ _ _ h => h) (Or.inl ⟨by kernel_rfl, ?_⟩) (by assumption) ?_
              rotate_left
              · intro u _
                try simp only [List.getElem_toArray, List.getElem_cons_succ, List.getElem_cons_zero]
                go_simp
                try with_reducible rfl
              try simp only [Act.put, List.setIfInBounds_toArray, List.set_cons_zero, List.set_cons_succ]
              refine Stg.wpAnyL_free (i := 8) (v := ?_) 0 rfl (by kernel_rfl) (by kernel_rfl) (by kernel_rfl) (by kernel_rfl) (by kernel_rfl) (fun _ _ _ h => h) (Or.inl ⟨by kernel_rfl, ?_⟩) (by assumption) ?_
              rotate_left
              · intro u _
                try simp only [List.getElem_toArray, List.getElem_cons_succ, List.getElem_cons_zero]
                go_simp
                try with_reducible rfl
              try simp only [Act.put, List.setIfInBounds_toArray, List.set_cons_zero, List.set_cons_succ]
              refine Stg.wpAnyL_start (n' := 2) (l' := #[true, true, true, true, true, true, true, true, true, false, false]) (by kernel_rfl) (by kernel_rfl) ?_
              refine Stg.wpAnyL_take (i := 9) (v := ?_) [10] 0 rfl (by kernel_rfl) (by kernel_rfl) (by kernel_rfl) (by kernel_rfl) (by kernel_rfl) (fun _ _ _ h => h) (Or.inl ⟨by kernel_rfl, ?_⟩) (by assumption) ?_
              rotate_left
              · intro u hSu
                skip
                have sB := hSu rfl
                have y0 := cellB sB y2
                have y1 := cellB sB x0
                have y2 := cellB sB z0
                try simp only [List.getElem_toArray, List.getElem_cons_succ, List.getElem_cons_zero]
                go_simp
                try with_reducible rfl
              try simp only [Act.put, List.setIfInBounds_toArray, List.set_cons_zero, List.set_cons_succ]
              refine Stg.wpAnyL_free (i := 10) (v := ?_) 0 rfl (by kernel_rfl) (by kernel_rfl) (by kernel_rfl) (by kernel_rfl) (by kernel_rfl) (fun _ _ _ h => h) (Or.inl ⟨by kernel_rfl, ?_⟩) (by assumption) ?_
              rotate_left
              · intro u _
                try simp only [List.getElem_toArray, List.getElem_cons_succ, List.getElem_cons_zero]
                go_simp
                try with_reducible rfl
              try simp only [Act.put, List.setIfInBounds_toArray, List.set_cons_zero, List.set_cons_succ]
              refine Stg.wpAnyL_done (by kernel_rfl) ?_ _
              try simp only [List.getElem_toArray, List.getElem_cons_succ, List.getElem_cons_zero]
              try simp only [Act.put, List.setIfInBounds_toArray, List.set_cons_zero, List.set_cons_succ]
              refine NoPanic.normal ?_
              go_wp2_with fail
              go_meet
              exact hP.out
      case rest =>
        obtain ⟨aj, mj, cj, kk, rfl, rfl, hkk2, hmj, hLj, hBj⟩ := hcut
        have kX6 := kX.out.bel hBj
        have p0 := kX6.c 0 _ rfl
        have p1 := kX6.c 1 _ rfl
        have p2 := kX6.c 2 _ rfl
        have kB6 := Lib.hid (bNext kB.out hBj (Nat.le_refl _))
        have kS6 := Lib.hid (kS.out.bel hBj)
        obtain ⟨w6, rfl⟩ : ∃ wo : World, wo = wc := ⟨_, rfl⟩
        obtain ⟨R, hR⟩ : ∃ R, madeR b t (putL l M k0) = R := ⟨_, rfl⟩
        have hkkn : kk ≤ n := by omega
        replace kX6 := Lib.hid kX6
        replace hLj := Lib.hid hLj
        replace hBj := Lib.hid hBj
        by_cases c1 : mj = 0
        · subst c1
          have hpl : putL l M k0 = l := by rw [hput.out, if_neg (by have := hMl.out; omega)]
          have hmade := made_c b t a n c a n c l w6 (H.out.bel kB6.out) hw hb ht (fun _ => hsm.out)
          rw [← hpl, hR] at hmade
          replace hmade := Lib.hid hmade
          replace hR := Lib.hid hR
          have hB9 := kB6
          have rs9 := kS6
          clear hpl
          go_wp2_with fail
          refine hmade.out.mono ?_
          rintro e w7 ⟨a6, n6, c6, rfl, hL6, hF6, hb6⟩
          have rs6 := rs9.out.bel hb6
          have hB6 := bNext hB9.out hb6 (Nat.le_refl _)
          have hFF := hF6.mono (show w.heap.size + 2 ≤ w6.heap.size by have := rs9.out.l; omega)
          have r0 := rs6.c 0 _ rfl
          have r1 := rs6.c 1 _ rfl
          have r2 := rs6.c 2 _ rfl
          have rf := rs6.f 0
          have rf1 := rs6.f 1
          have rf2 := rs6.f 2
          have rs7 := blk_set3 rs6 (.int .i64 R.b) (.int .i64 R.t) (.slice a6 n6 c6)
          have rs8 := blk_set3 rs7 (.int .i64 R.b) (.int .i64 R.t) (.slice a6 n6 c6)
          have t0 := Lib.hid (rs8.c 0 _ rfl)
          have t1 := Lib.hid (rs8.c 1 _ rfl)
          have t2 := Lib.hid (rs8.c 2 _ rfl)
          have hL7 := hL6.set3 hFF (show w.heap.size + 1 < w.heap.size + 2 by omega) rs6 (.int .i64 R.b) (.int .i64 R.t) (.slice a6 n6 c6)
          have hL8 := Lib.hid (hL7.set3 hFF (show w.heap.size + 1 < w.heap.size + 2 by omega) rs7 (.int .i64 R.b) (.int .i64 R.t) (.slice a6 n6 c6))
          have hB8 := Lib.hid (below_set3 (below_set3 hB6 (show w.heap.size ≤ w.heap.size + 1 by omega) (.int .i64 R.b) (.int .i64 R.t) (.slice a6 n6 c6)) (show w.heap.size ≤ w.heap.size + 1 by omega) (.int .i64 R.b) (.int .i64 R.t) (.slice a6 n6 c6))
          clear rs6 hB6 rs7 rs8 hL6 hF6 hL7 hb6 hFF
          by_cases hRe : R.e = 0
          · have hp := Lib.hid (show putT R (i + (l2.length : Int)) = ⟨R, i + (l2.length : Int), true⟩ by unfold putT; rw [if_pos hRe])
            have hRe' := Lib.hid hRe
            go_wp2_with fail
            try rw [Exit.noGoto_ret]
            refine bodyPost_ret (v := .tuple #[.agg #[.int .i64 R.b, .int .i64 R.t, .slice a6 n6 c6], .int .i64 (i + (l2.length : Int)), .bool true, .int .i64 0]) (by simp [results, Try.results10, go_sem, t0.out, t1.out, t2.out]) rfl ?_
            rw [hm.out, hR.out, hp.out]
            exact ⟨_, _, _, by rw [hRe'.out], hL8.out, hB8.out⟩
          · have hp := Lib.hid (show putT R (i + (l2.length : Int)) = ⟨R, 0, false⟩ by unfold putT; rw [if_neg hRe])
            have hRb : (R.e == 0) = false := by simpa using hRe
            have hRb' : (R.e != 0) = true := by simpa using hRe
            replace hRe := Lib.hid hRe
            go_wp2_with fail
            try rw [Exit.noGoto_ret]
            refine bodyPost_ret (v := .tuple #[.agg #[.int .i64 R.b, .int .i64 R.t, .slice a6 n6 c6], .int .i64 0, .bool false, .int .i64 R.e]) (by simp [results, Try.results10, go_sem, t0.out, t1.out, t2.out]) rfl ?_
            rw [hm.out, hR.out, hp.out]
            exact ⟨_, _, _, rfl, hL8.out, hB8.out⟩
        · have e1 : 0 < mj := by omega
          have e1I : (0 : Int) < (mj : Int) := by omega
          have hpl : putL l M k0 = l.take kk ++ M.drop K := by rw [hput.out, if_pos (by have := hMl.out; omega), hkk2]
          have hLc := Lib.hid (show LAt w6 (cutA a 0 kk 5) kk kk (l.take kk) by
            have q := (H.out.bel kB6.out).cut (Nat.zero_le kk) hkkn (Nat.le_refl kk) (show kk ≤ c by have := H.out.le; omega)
            rw [List.drop_zero, Nat.sub_zero] at q
            exact q)
          have hkc : (kk : Int) ≤ (c : Int) := by have := H.out.le; omega
          have hkcN : kk ≤ c := by omega
          have hmade := Lib.hid (fun u a' c' (hq : LAt u a' (kk + mj) c' (l.take kk ++ M.drop K)) => (show Calls Try.prog 31 #[.agg #[.int .i64 b, .int .i64 t, .slice a n c], .slice a' (kk + mj) c'] u (RowsP u R) by
            have q := made_c b t a n c a' (kk + mj) c' _ u hq ((hw.take kk).app (hwM.out.drop K)) hb ht (fun _ => (hsm.out.take kk).app (hsM.out.drop K) (by have := hsM.out.1; have := hnl.out; have := hMl.out; simp; omega))
            rw [← hpl, hR] at q
            exact q))
          replace hR := Lib.hid hR
          replace hkk2 := Lib.hid hkk2
          clear hpl c1
          go_wp2_with (at_builtin; refine wpList_append_full rfl (.tmp 139) (.tmp 140) rfl (by rfl) (by rfl) hLc.out hLj.out (by omega) ?_; intro a7 c7 w7 hL7 hb7; have p0 := cellB hb7 p0; have p1 := cellB hb7 p1; have p2 := cellB hb7 p2; replace hL7 := Lib.hid hL7; replace hb7 := Lib.hid hb7)
          have hB9 := Lib.hid (bNext kB6.out hb7.out (Nat.le_refl _))
          have rs9 := Lib.hid (kS6.out.bel hb7.out)
          refine (hmade.out _ _ _ hL7.out).mono ?_
          rintro e w8 ⟨a6, n6, c6, rfl, hL6, hF6, hb6⟩
          have rs6 := rs9.out.bel hb6
          have hB6 := bNext hB9.out hb6 (Nat.le_refl _)
          have hFF := hF6.mono (show w.heap.size + 2 ≤ w7.heap.size by have := rs9.out.l; omega)
          have r0 := rs6.c 0 _ rfl
          have r1 := rs6.c 1 _ rfl
          have r2 := rs6.c 2 _ rfl
          have rf := rs6.f 0
          have rf1 := rs6.f 1
          have rf2 := rs6.f 2
          have rs7 := blk_set3 rs6 (.int .i64 R.b) (.int .i64 R.t) (.slice a6 n6 c6)
          have rs8 := blk_set3 rs7 (.int .i64 R.b) (.int .i64 R.t) (.slice a6 n6 c6)
          have t0 := Lib.hid (rs8.c 0 _ rfl)
          have t1 := Lib.hid (rs8.c 1 _ rfl)
          have t2 := Lib.hid (rs8.c 2 _ rfl)
          have hL7 := hL6.set3 hFF (show w.heap.size + 1 < w.heap.size + 2 by omega) rs6 (.int .i64 R.b) (.int .i64 R.t) (.slice a6 n6 c6)
          have hL8 := Lib.hid (hL7.set3 hFF (show w.heap.size + 1 < w.heap.size + 2 by omega) rs7 (.int .i64 R.b) (.int .i64 R.t) (.slice a6 n6 c6))
          have hB8 := Lib.hid (below_set3 (below_set3 hB6 (show w.heap.size ≤ w.heap.size + 1 by omega) (.int .i64 R.b) (.int .i64 R.t) (.slice a6 n6 c6)) (show w.heap.size ≤ w.heap.size + 1 by omega) (.int .i64 R.b) (.int .i64 R.t) (.slice a6 n6 c6))
          clear rs6 hB6 rs7 rs8 hL6 hF6 hL7 hb6 hFF
          by_cases hRe : R.e = 0
          · have hp := Lib.hid (show putT R (i + (l2.length : Int)) = ⟨R, i + (l2.length : Int), true⟩ by unfold putT; rw [if_pos hRe])
            have hRe' := Lib.hid hRe
            go_wp2_with fail
            try rw [Exit.noGoto_ret]
            refine bodyPost_ret (v := .tuple #[.agg #[.int .i64 R.b, .int .i64 R.t, .slice a6 n6 c6], .int .i64 (i + (l2.length : Int)), .bool true, .int .i64 0]) (by simp [results, Try.results10, go_sem, t0.out, t1.out, t2.out]) rfl ?_
            rw [hm.out, hR.out, hp.out]
            exact ⟨_, _, _, by rw [hRe'.out], hL8.out, hB8.out⟩
          · have hp := Lib.hid (show putT R (i + (l2.length : Int)) = ⟨R, 0, false⟩ by unfold putT; rw [if_neg hRe])
            have hRb : (R.e == 0) = false := by simpa using hRe
            have hRb' : (R.e != 0) = true := by simpa using hRe
            replace hRe := Lib.hid hRe
            go_wp2_with fail
            try rw [Exit.noGoto_ret]
            refine bodyPost_ret (v := .tuple #[.agg #[.int .i64 R.b, .int .i64 R.t, .slice a6 n6 c6], .int .i64 0, .bool false, .int .i64 R.e]) (by simp [results, Try.results10, go_sem, t0.out, t1.out, t2.out]) rfl ?_
            rw [hm.out, hR.out, hp.out]
            exact ⟨_, _, _, rfl, hL8.out, hB8.out⟩
end Go.Proofs.Ytbiodlhiilmgkaa
