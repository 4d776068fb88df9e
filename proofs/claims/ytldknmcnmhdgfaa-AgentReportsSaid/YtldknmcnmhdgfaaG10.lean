/- Leases: Reports. -/
import Derived.Test.YtldknmcnmhdgfaaG9
namespace Go.Proofs.Ytldknmcnmhdgfaa
open Go.ChangeShapes Go.WideShapes Go.ChangeAt Go.RowKit
set_option linter.unusedVariables false
set_option linter.unusedSimpArgs false
open BigFrame Bs Ag


set_option maxRecDepth 100000 in
set_option maxHeartbeats 4000000 in
theorem reports_nil (w : World) (n : Int) : Calls Try.prog 15 #[.pointer none, .int .i64 n] w fun e w' => e = .returned (.slice none 0 0) ∧ w' = w := by
  have ha := Lib.hid (at_nil w n)
  go_enter Try.func15, Try.ntmps15
  go_wp2_with fail
  refine ha.out.mono ?_
  rintro e w' ⟨rfl, rfl⟩
  go_wp2_with fail
  go_ret
  exact ⟨rfl, rfl⟩

namespace Ag
/-- Nothing is told. -/
def RepE (m : Nat → Prop) (a : Nat) (A : St) (w : World) (e : Ending) (w' : World) : Prop := ∃ p c, e = .returned (.slice none 0 0) ∧ AgE m w' a A p c ∧ Kp m w w'
/-- What a report is; the lease stays, or goes. -/
def RepR (m : Nat → Prop) (A : St) (x : Ls) (cl : Bool) (w' : World) (e : Ending) : Prop := ∃ r c : Nat, e = .returned (.slice (some ⟨r, 0, none⟩) 1 c) ∧ Blk w' r (repL A x cl) ∧ ¬ m r
def RepL (m : Nat → Prop) (a : Nat) (A : St) (x : Ls) (q g c : Nat) (w : World) (e : Ending) (w' : World) : Prop :=
  (if x.told < x.size - x.left then RepR m A x false w' e else e = .returned (.slice none 0 0)) ∧
  (if x.left = 0 then AgE m w' a A (some ⟨q, 0, none⟩) c else AgL m w' a A q g c { x with told := x.size - x.left }) ∧ Kp m w w'
end Ag

set_option maxRecDepth 100000 in
set_option maxHeartbeats 4000000 in
theorem reports_E {m : Nat → Prop} {w : World} {a : Nat} {A : St} (n : Int) (hat : AtE m a A w n) :
    Calls Try.prog 15 #[.pointer (some ⟨a, 0, none⟩), .int .i64 n] w (RepE m a { A with no := max A.no n } w) := by
  replace hat := Lib.hid hat
  go_enter Try.func15, Try.ntmps15
  go_wp2_with fail
  refine hat.out.mono ?_
  rintro e u ⟨p, c, rfl, h1, hB⟩
  have c19 := h1.b.c 19 _ rfl
  have f19 := h1.b.f 19
  have h3 : AgE m (u.setCell ⟨a, 19, none⟩ (.slice p 0 c)) a { A with no := max A.no n } p c := h1.set (by omega) rfl
  have k3 := hB.setCell (p := ⟨a, 19, none⟩) h1.ma (.slice p 0 c)
  have hdl : ∀ fv, Calls Try.prog 24 #[.slice p 0 c, fv] u fun e w' => e = .returned (.slice p 0 c) ∧ w' = u := fun fv => del_nil u p c fv
  replace hdl := Lib.hid hdl
  replace h3 := Lib.hid h3
  replace k3 := Lib.hid k3
  clear hat h1 hB
  go_wp2_with fail
  go_loop [4, 17] (fun s4 s17 => s4 = .slice none 0 0 ∧ s17 = .int .i64 0) (fun _ _ => 0)
  case atStart => exact ⟨rfl, rfl⟩
  case round =>
    obtain ⟨rfl, rfl⟩ := hrel
    go_wp2_with fail
    refine (hdl.out _).mono ?_
    rintro e u2 ⟨rfl, rfl⟩
    clear hdl
    go_wp2_with fail
    go_ret
    exact ⟨_, _, rfl, h3.out, k3.out⟩

set_option maxRecDepth 100000 in
set_option maxHeartbeats 4000000 in
theorem reports_L {m : Nat → Prop} {w : World} {a : Nat} {A : St} {q g c : Nat} {x : Ls} (h : AgL m w a A q g c x) (n : Int) (hy : ¬ x.til ≤ max A.no n) (hl : 0 ≤ x.left ∧ x.left ≤ x.size ∧ x.size ≤ 1000000) (ht : x.told ≤ x.size - x.left) :
    Calls Try.prog 15 #[.pointer (some ⟨a, 0, none⟩), .int .i64 n] w (RepL m a { A with no := max A.no n } x q g c w) := by
  have hat := Lib.hid (at_alive h n hy)
  have hl' := Lib.hid hl
  obtain ⟨l1, l2, l3⟩ := hl
  have s1 := IntWalk.i64_in (x.size - x.left) (by omega)
  clear hy h
  go_enter Try.func15, Try.ntmps15
  go_wp2_with fail
  refine hat.out.mono ?_
  rintro e u ⟨rfl, h1, hB⟩
  have c19 := h1.b.c 19 _ rfl
  have c0 := h1.r.c 0 _ rfl
  have x2 := h1.x.c 2 _ rfl
  have x4 := h1.x.c 4 _ rfl
  have x5 := h1.x.c 5 _ rfl
  clear hat
  by_cases hsp : x.told < x.size - x.left
  · have hrp := h1
    replace h1 := Lib.hid h1
    replace hB := Lib.hid hB
    replace hrp := Lib.hid hrp
    go_wp2_with fail
    go_loopw [4, 6, 7, 17] (fun s4 s6 s7 s17 wr => (s4 = .slice none 0 0 ∧ s17 = .int .i64 0 ∧ wr = u) ∨ (s17 = .int .i64 1 ∧ (∃ r cr : Nat, s4 = .slice (some ⟨r, 0, none⟩) 1 cr ∧ Blk wr r (repL { A with no := max A.no n } x false) ∧ ¬ m r ∧ a ≠ r ∧ q ≠ r ∧ g ≠ r) ∧ AgL m wr a { A with no := max A.no n } q g c { x with told := x.size - x.left } ∧ Kp m w wr)) (fun _ _ _ s17 _ => 2 - (intOf s17).toNat)
    case atStart => exact .inl ⟨rfl, rfl, rfl⟩
    case round =>
      rcases hrel with ⟨rfl, rfl, rfl⟩ | ⟨rfl, ⟨r, cr, rfl, hr, kr, n1, n2, n3⟩, hX, kX⟩
      · go_wp2_with fail
        go_quiet (fail)
        have hd := bDrew (Below.refl wr.heap.size wr) nq
        have h2 := h1.out.bel hd
        have hB2 := hB.out.trans (Kp.of hd)
        clear c19 c0 x2 x4 x5 hd
        generalize wr.drewN nq = V at h2 hB2 ⊢
        have x5 := h2.x.c 5 _ rfl
        have f5 := h2.x.f 2
        have hrc := Lib.hid (report_c h2 false hl'.out)
        replace h2 := Lib.hid h2
        replace hB2 := Lib.hid hB2
        clear h1 hB hrp
        go_wp2_with fail
        refine hrc.out.mono ?_
        rintro e V2 ⟨rfl, hB3⟩
        have h3 := h2.out.bel hB3
        have hB4 := hB2.out.trans (Kp.of hB3)
        clear hrc h2 hB2 hB3 x5 f5
        have hal := (Below.refl V2.heap.size V2).alloc (Nat.le_refl _) (.cells #[.int .i8 5, .int .i64 0, .int .i64 0, .int .i64 0, .int .i64 0, .int .i64 0, .int .i64 A.sh, .int .i64 A.ep, .int .i64 x.id, .int .i64 0, .int .i64 (x.size - x.left), .bool false, .slice none 0 0] 31)
        have bs := blk_new V2 (repL { A with no := max A.no n } x false) 31
        have hnx := Lib.hid (fun (g2 : Nat) (w5 : World) (hq1 : (V2.alloc (.cells #[.int .i8 5, .int .i64 0, .int .i64 0, .int .i64 0, .int .i64 0, .int .i64 0, .int .i64 A.sh, .int .i64 A.ep, .int .i64 x.id, .int .i64 0, .int .i64 (x.size - x.left), .bool false, .slice none 0 0] 31)).heap.size ≤ g2) (hb5 : Below (V2.alloc (.cells #[.int .i8 5, .int .i64 0, .int .i64 0, .int .i64 0, .int .i64 0, .int .i64 0, .int .i64 A.sh, .int .i64 A.ep, .int .i64 x.id, .int .i64 0, .int .i64 (x.size - x.left), .bool false, .slice none 0 0] 31)).heap.size (V2.alloc (.cells #[.int .i8 5, .int .i64 0, .int .i64 0, .int .i64 0, .int .i64 0, .int .i64 0, .int .i64 A.sh, .int .i64 A.ep, .int .i64 x.id, .int .i64 0, .int .i64 (x.size - x.left), .bool false, .slice none 0 0] 31)) w5) => (show AgL m w5 a { A with no := max A.no n } q g c x ∧ Kp m w w5 ∧ a ≠ g2 ∧ q ≠ g2 ∧ g ≠ g2 ∧ ¬ m g2 from ⟨h3.bel (bNext hal hb5 (Nat.le_refl _)), hB4.trans (Kp.of (bNext hal hb5 (Nat.le_refl _))), by have := h3.b.l; simp at hq1; omega, by have := h3.r.l; simp at hq1; omega, by have := h3.x.l; simp at hq1; omega, fun hm => by have := h3.mw _ hm; simp at hq1; omega⟩))
        replace bs := Lib.hid bs
        replace hal := Lib.hid hal
        replace h3 := Lib.hid h3
        replace hB4 := Lib.hid hB4
        unfold repV
        go_wp2_with (at_builtin; refine wpList_append_first rfl (.tmp 37) (.tmp 41) 43 31 (.agg #[.int .i8 0, .int .i64 0, .int .i64 0, .int .i64 0, .int .i64 0, .int .i64 0, .int .i64 0, .int .i64 0, .int .i64 0, .int .i64 0, .int .i64 0, .bool false, .slice none 0 0]) 13 120 rfl Try.underlying43 info_cmd rfl (by omega) (by omega) (by rfl) (b := V2.heap.size) (c := 1) (by rfl) bs.out rfl (rep_one _ _ _) ?_; intro g2 cap2 w5 hq hq1 hc1 hc2 hb5; obtain ⟨h5, hB5, n1, n2, n3, n4⟩ := hnx.out g2 w5 hq1 hb5; have x5 := h5.x.c 5 _ rfl; have f5 := h5.x.f 5; clear hnx bs hal h3 hB4 hc1 hc2 hb5 hq1; replace h5 := Lib.hid h5; replace hB5 := Lib.hid hB5; replace hq := Lib.hid hq)
        have h6 : AgL m (w5.setCell ⟨g, 5, none⟩ (.int .i64 (x.size - x.left))) a { A with no := max A.no n } q g c { x with told := x.size - x.left } := h5.out.setX (by omega) rfl
        have k6 := hB5.out.setCell (p := ⟨g, 5, none⟩) h5.out.mg (.int .i64 (x.size - x.left))
        have r6 := hq.out.other (Ne.symm n3) (.int .i64 (x.size - x.left)) (o := 5)
        go_roundw
        case rel => exact .inr ⟨rfl, ⟨g2, cap2, rfl, r6, n4, n1, n2, n3⟩, h6, k6⟩
        case measure => simp [intOf]
      · clear c19 c0 x2 x4 x5 h1 hB hrp
        have c0 := hX.r.c 0 _ rfl
        have c19 := hX.b.c 19 _ rfl
        replace hX := Lib.hid hX
        replace kX := Lib.hid kX
        replace hr := Lib.hid hr
        by_cases hz : x.left = 0
        · have hdl := Lib.hid (del_rep_yes hX.out hz)
          go_wp2_with fail
          refine hdl.out.mono ?_
          rintro e u5 ⟨wr5, v, rfl, hB5, rfl⟩
          have h5 := hX.out.bel hB5
          have b5 := h5.b.other h5.aq v (o := 0)
          have f19 := b5.f 19
          have h6 : AgE m ((wr5.setCell ⟨q, 0, none⟩ v).setCell ⟨a, 19, none⟩ (.slice (some ⟨q, 0, none⟩) 0 c)) a { A with no := max A.no n } (some ⟨q, 0, none⟩) c := h5.wipe v
          have k6 := ((kX.out.trans (Kp.of hB5)).setCell (p := ⟨q, 0, none⟩) h5.mq v).setCell (p := ⟨a, 19, none⟩) h5.ma (.slice (some ⟨q, 0, none⟩) 0 c)
          have c19 := b5.c 19 _ rfl
          have hr6 := Lib.hid (((hr.out.bel hB5).other (Ne.symm n2) v (o := 0)).other (Ne.symm n1) (.slice (some ⟨q, 0, none⟩) 0 c) (o := 19))
          replace h6 := Lib.hid h6
          replace k6 := Lib.hid k6
          clear hdl h5 b5 hB5 hX kX c0 hr
          go_wp2_with fail
          go_ret
          refine ⟨?_, ?_, k6.out⟩
          · rw [if_pos hsp]
            exact ⟨r, cr, rfl, hr6.out, kr⟩
          · rw [if_pos hz]
            exact h6.out
        · have hdl := Lib.hid (del_rep_no (c := c) hX.out hz)
          go_wp2_with fail
          refine hdl.out.mono ?_
          rintro e u5 ⟨rfl, hB5⟩
          have h5 := hX.out.bel hB5
          have f19 := h5.b.f 19
          have h6 : AgL m (u5.setCell ⟨a, 19, none⟩ (.slice (some ⟨q, 0, none⟩) 1 c)) a { A with no := max A.no n } q g c { x with told := x.size - x.left } := h5.set (by omega) rfl
          have k6 := (kX.out.trans (Kp.of hB5)).setCell (p := ⟨a, 19, none⟩) h5.ma (.slice (some ⟨q, 0, none⟩) 1 c)
          have c19 := h5.b.c 19 _ rfl
          have hr6 := Lib.hid ((hr.out.bel hB5).other (Ne.symm n1) (.slice (some ⟨q, 0, none⟩) 1 c) (o := 19))
          replace h6 := Lib.hid h6
          replace k6 := Lib.hid k6
          clear hdl h5 hB5 hX kX c0 hr
          go_wp2_with fail
          go_ret
          refine ⟨?_, ?_, k6.out⟩
          · rw [if_pos hsp]
            exact ⟨r, cr, rfl, hr6.out, kr⟩
          · rw [if_neg hz]
            exact h6.out
  · replace h1 := Lib.hid h1
    replace hB := Lib.hid hB
    have e5 : x.told = x.size - x.left := by omega
    have hX : AgL m u a { A with no := max A.no n } q g c { x with told := x.size - x.left } := by rw [← e5]; exact h1.out
    replace hX := Lib.hid hX
    replace e5 := Lib.hid e5
    go_wp2_with fail
    go_loopw [4, 6, 7, 17] (fun s4 s6 s7 s17 wr => (s4 = .slice none 0 0 ∧ s17 = .int .i64 0 ∧ wr = u) ∨ (s4 = .slice none 0 0 ∧ s17 = .int .i64 1 ∧ AgL m wr a { A with no := max A.no n } q g c { x with told := x.size - x.left } ∧ Kp m w wr)) (fun _ _ _ s17 _ => 2 - (intOf s17).toNat)
    case atStart => exact .inl ⟨rfl, rfl, rfl⟩
    case round =>
      rcases hrel with ⟨rfl, rfl, rfl⟩ | ⟨rfl, rfl, hX2, kX⟩
      · go_wp2_with fail
        go_quiet (fail)
        have hd := bDrew (Below.refl wr.heap.size wr) nq
        have h2 := hX.out.bel hd
        have hB2 := hB.out.trans (Kp.of hd)
        replace h2 := Lib.hid h2
        replace hB2 := Lib.hid hB2
        clear hd
        go_wp2_with fail
        go_roundw
        case rel => exact .inr ⟨rfl, rfl, h2.out, hB2.out⟩
        case measure => simp [intOf]
      · clear c19 c0 x2 x4 x5 h1 hB hX
        have c0 := hX2.r.c 0 _ rfl
        have c19 := hX2.b.c 19 _ rfl
        have hX := Lib.hid hX2
        clear hX2
        replace kX := Lib.hid kX
        by_cases hz : x.left = 0
        · have hdl := Lib.hid (del_rep_yes hX.out hz)
          go_wp2_with fail
          refine hdl.out.mono ?_
          rintro e u5 ⟨wr5, v, rfl, hB5, rfl⟩
          have h5 := hX.out.bel hB5
          have b5 := h5.b.other h5.aq v (o := 0)
          have f19 := b5.f 19
          have h6 : AgE m ((wr5.setCell ⟨q, 0, none⟩ v).setCell ⟨a, 19, none⟩ (.slice (some ⟨q, 0, none⟩) 0 c)) a { A with no := max A.no n } (some ⟨q, 0, none⟩) c := h5.wipe v
          have k6 := ((kX.out.trans (Kp.of hB5)).setCell (p := ⟨q, 0, none⟩) h5.mq v).setCell (p := ⟨a, 19, none⟩) h5.ma (.slice (some ⟨q, 0, none⟩) 0 c)
          have c19 := b5.c 19 _ rfl
          skip
          replace h6 := Lib.hid h6
          replace k6 := Lib.hid k6
          clear hdl h5 b5 hB5 hX kX c0
          go_wp2_with fail
          go_ret
          refine ⟨?_, ?_, k6.out⟩
          · rw [if_neg (show ¬ x.told < x.size - x.left by omega)]
            rfl
          · rw [if_pos hz]
            exact h6.out
        · have hdl := Lib.hid (del_rep_no (c := c) hX.out hz)
          go_wp2_with fail
          refine hdl.out.mono ?_
          rintro e u5 ⟨rfl, hB5⟩
          have h5 := hX.out.bel hB5
          have f19 := h5.b.f 19
          have h6 : AgL m (u5.setCell ⟨a, 19, none⟩ (.slice (some ⟨q, 0, none⟩) 1 c)) a { A with no := max A.no n } q g c { x with told := x.size - x.left } := h5.set (by omega) rfl
          have k6 := (kX.out.trans (Kp.of hB5)).setCell (p := ⟨a, 19, none⟩) h5.ma (.slice (some ⟨q, 0, none⟩) 1 c)
          have c19 := h5.b.c 19 _ rfl
          skip
          replace h6 := Lib.hid h6
          replace k6 := Lib.hid k6
          clear hdl h5 hB5 hX kX c0
          go_wp2_with fail
          go_ret
          refine ⟨?_, ?_, k6.out⟩
          · rw [if_neg (show ¬ x.told < x.size - x.left by omega)]
            rfl
          · rw [if_neg hz]
            exact h6.out
end Go.Proofs.Ytldknmcnmhdgfaa
