/- The shaper: the law's waking; no shaper. -/
import Derived.Test.YtkefkophlhcbiaaS9
namespace Go.Proofs.Ytkefkophlhcbiaa
open Go.ChangeShapes Go.WideShapes Go.ChangeAt Go.RowKit
set_option linter.unusedVariables false
set_option linter.unusedSimpArgs false
open BigFrame Pk Sh Fa Fq
open Vr hiding cellB
open By (Byt RowG blkO)
open Fp (Pt PQ PqP)
open Bs (cellB IntRows)

namespace Sh
theorem SHP.bel {I : Ids} {G : Gs} {L : List Nat} {w w' : World} (h : SHP I G L w) (k : Below w.heap.size w w') : SHP I G L w' := by
  obtain ⟨tb, ct, pos, kd, hS⟩ := h
  exact ⟨tb, ct, pos, kd, hS.bel k⟩
theorem made8 (n i : Nat) (h : i < n) : (madeCells (Value.int .u8 0).cells (n * 1)).toList[i]? = some (.int .u8 0) := by
  have e : (Value.int .u8 0).cells = #[.int .u8 0] := by rfl
  rw [e]
  simp [madeCells, h, Nat.mod_one]
theorem info_by8 : (Try.prog.info? 5).map (fun i => (i.zero, i.size, i.bytes)) = some (some (.int .u8 0), 1, 1) := by kernel_rfl
end Sh
set_option maxRecDepth 100000 in
set_option maxHeartbeats 16000000 in
theorem wakes27_c (w : World) : Calls Try.prog 8 #[] w fun e w' => e = .returned (.bool true) ∧ Below w.heap.size w w' := by
  obtain ⟨i0, hi0, hz0, hz1, hz2⟩ := info_parts info_by8
  have hB0 := (Below.refl w.heap.size w).alloc (Nat.le_refl _) (.cells #[.int .i64 1, .int .i64 1, .int .i64 5] 33)
  have bf := By.blkN_new w [.int .i64 1, .int .i64 1, .int .i64 5] 33
  have hI : IntRows (w.alloc (.cells #[.int .i64 1, .int .i64 1, .int .i64 5] 33)) (some ⟨w.heap.size, 0, none⟩) w.heap.size 0 1 3 XW := by
    refine ⟨fun _ => rfl, fun _ => bf.l, fun i j hi hj => ?_⟩
    obtain rfl : i = 0 := by omega
    have : j = 0 ∨ j = 1 ∨ j = 2 := by omega
    rcases this with rfl | rfl | rfl <;> exact bf.c _ _ rfl
  have hnew := snew_c _ _ _ _ 1 1 XW hI (fun i j hi hj => by unfold XW; split <;> decide) (by omega) [] (by simp)
  clear bf hI
  replace hB0 := Lib.hid hB0
  go_enter Try.func8, Try.ntmps8
  go_wp2_with fail
  refine hnew.mono ?_
  rintro e w1 ⟨(⟨_, I, rfl, hS, hN, hT, hW, hR, _, hge⟩ | ⟨hno, _⟩), hb1⟩
  rotate_left
  · exact absurd newW hno
  have hB1 := Lib.hid (hB0.out.trans (hb1.mono hB0.out.size))
  replace hS := Lib.hid hS
  replace hT := Lib.hid hT
  replace hR := Lib.hid hR
  replace hN := Lib.hid hN
  clear hnew hb1 hB0 hW
  go_upto_region 3 with (at_make; refine wpList_make_full _ rfl _ _ 34 rfl w1.heap.size 5 i0 _ 1 Try.underlying34 hi0 hz0 hz1 .i64 .i64 _ _ 92 rfl rfl rfl rfl (by rw [hz2]; omega) (by unfold maxLen; omega) (Nat.le_refl _) ?_; intro w3 hown3 hgrow3)
  have hB3 : Below w1.heap.size w1 w3 := (Below.refl _ _).grown hgrow3 (Nat.le_refl _) (fun q hq => by cases hq)
  have hby3 : Byt w3 (some ⟨w1.heap.size, 0, none⟩) pW.d.length 92 pW.d := ⟨rfl, Nat.le_refl _, by omega, fun _ => ⟨w1.heap.size, 0, rfl, (hown3.lt w1.heap.size rfl).2, fun i x hx => by
    have hi : i < 92 := by have := (List.getElem?_eq_some_iff.1 hx).1; simpa [pW] using this
    have e : pW.d[i]? = some 0 := by show (List.replicate 92 0)[i]? = some 0; rw [List.getElem?_replicate]; simp [hi]
    rw [e] at hx
    cases hx
    rw [Nat.zero_add]
    exact ⟨(hown3.cellAt i (by omega)).trans (made8 92 i hi), by omega⟩⟩⟩
  have hbu : Calls Try.prog 22 #[.agg #[.int .i64 0, .int .i64 1, .int .i64 0, .slice (some ⟨w1.heap.size, 0, none⟩) 92 92]] w3 (BuildP pW w3) := buildC_c pW _ _ w3 ⟨rfl, by decide, by decide, by show 92 ≤ 1492; omega, fun x hx => by
    have : x = 0 := List.eq_of_mem_replicate hx
    omega⟩ (by decide) hby3
  have hS3 := Lib.hid (hS.out.bel hB3)
  have hB3' := Lib.hid (hB1.out.trans (hB3.mono hB1.out.size))
  clear hown3 hgrow3 hB3 hby3
  refine hbu.mono ?_
  rintro e w4 ⟨g, c, rfl, hby4, hg, hb4⟩
  rw [show 8 + pW.d.length = 100 from rfl] at hby4
  rw [show 8 + pW.d.length = 100 from rfl]
  have hby4h : RowKit.Hid (Byt w4 (some ⟨g, 0, none⟩) 100 c dW) := Lib.hid hby4
  have hS4 := hS3.out.bel hb4
  have hB4 := Lib.hid (hB3'.out.trans (hb4.mono hB3'.out.size))
  have hgb : RowKit.Hid (g ∉ I.ns) := Lib.hid (fun z => by
    obtain ⟨_, _, _, _, hq⟩ := hS3.out
    have := hq.ns_lt g (List.mem_append_left _ z)
    omega)
  clear hbu hby4 hb4 hS3 hB3' hg
  have w1' := wake_in hN.out hT.out hR.out g0 (by show 0 < 5; omega)
  have hin := in_c hS4 _ _ _ dW hby4h.out (by show 0 + 1 ≤ 6000; omega)
  replace hS4 := Lib.hid hS4
  go_wp2_with fail
  refine hin.mono ?_
  rintro e w5 ⟨(⟨_, rfl, hS5⟩ | ⟨hno, _⟩), hk5⟩
  rotate_left
  · exact absurd w1'.2 hno
  rw [show ((g0.came : Int) + 1) = 1 from rfl]
  obtain ⟨G1, hG1⟩ : ∃ y, RowKit.Hid (inG I dW g0 = y) := ⟨_, Lib.hid rfl⟩
  rw [hG1.out] at hS5
  have hQ1 : G1.Q 0 = [inPt dW g0] := by rw [← hG1.out]; unfold inG; rw [w1'.1]; simp [upQ, g0]
  have hby5 := Lib.hid (hk5.byt hby4h.out (fun _ ad e => by cases e; exact hgb.out))
  have hns : ∀ q, q ∈ I.ns → w.heap.size ≤ q := fun q hq => Nat.le_trans (by simp) (hge q hq)
  have hB5 := Lib.hid (hB4.out.trans (hk5.below hns hB4.out.size))
  have w2' := wake_in hN.out hT.out hR.out G1 (by rw [hQ1]; decide)
  have hn1 : G1.n = 1 := by rw [← hG1.out]; rfl
  have hin2 := in_c hS5 _ _ _ dW hby5.out (by rw [hn1]; omega)
  replace hns := Lib.hid hns
  replace hS5 := Lib.hid hS5
  replace hQ1 := Lib.hid hQ1
  replace hn1 := Lib.hid hn1
  clear hin hk5 hB4 hS4 hby4h hge
  go_wp2_with fail
  refine hin2.mono ?_
  rintro e w6 ⟨(⟨_, rfl, hS6⟩ | ⟨hno, _⟩), hk6⟩
  rotate_left
  · exact absurd w2'.2 hno
  obtain ⟨G2, hG2⟩ : ∃ y, RowKit.Hid (inG I dW G1 = y) := ⟨_, Lib.hid rfl⟩
  rw [hG2.out] at hS6
  have hQ2 : G2.Q 0 = [inPt dW g0, inPt dW G1] := by rw [← hG2.out]; unfold inG; rw [w2'.1]; simp [upQ, hQ1.out]
  have hB6 := Lib.hid (hB5.out.trans (hk6.below hns.out hB5.out.size))
  have hn2 : G2.n = 2 := by rw [← hG2.out]; show G1.n + 1 = 2; rw [hn1.out]
  have htok2 : G2.tok = fun _ => 0 := by rw [← hG2.out, ← hG1.out]; rfl
  have hlk2 : G2.link = 0 := by rw [← hG2.out, ← hG1.out]; rfl
  have hpu := pump_c 500 hS6 (by rw [hn2]; omega) (by decide)
  replace hS6 := Lib.hid hS6
  replace hQ2 := Lib.hid hQ2
  replace hn2 := Lib.hid hn2
  replace htok2 := Lib.hid htok2
  replace hlk2 := Lib.hid hlk2
  clear hin2 hk6 hB5 hS5 hby5
  go_wp2_with fail
  refine hpu.mono ?_
  rintro e w7 ⟨out, Ga, Gb, la, lb, ca, cb, vs, hr, hdn, rfl, hS7, _, hk7⟩
  have hsl : (startG 500 G2).link = 500 := by show min (G2.link + min (max 500 0) 1048576) 1048576 = 500; rw [hlk2.out]; decide
  obtain ⟨rfl, rfl⟩ := pump_none hr hdn (by rw [hsl]; decide) (pk_none (fun i hi => by
    rw [hN.out] at hi
    obtain rfl : i = 0 := by omega
    unfold hd
    rw [show (startG 500 G2).Q 0 = G2.Q 0 from rfl, hQ2.out]
    simp only [show (startG 500 G2).tok = G2.tok from rfl, htok2.out]
    have : ((inPt dW g0).d.length : Int) = 92 := by show ((dW.drop 8).length : Int) = 92; rw [dropW]; rfl
    rw [this]
    decide))
  obtain ⟨G3, hG3⟩ : ∃ y, RowKit.Hid (({ noG I (startG 500 G2) with link := 0 } : Gs) = y) := ⟨_, Lib.hid rfl⟩
  rw [hG3.out] at hS7
  have hQ3 : RowKit.Hid (G3.Q 0 = [inPt dW g0, inPt dW G1]) := Lib.hid (by rw [← hG3.out]; exact hQ2.out)
  have htok3 : RowKit.Hid (G3.tok = fun _ => 0) := Lib.hid (by rw [← hG3.out]; exact htok2.out)
  have hn3 : RowKit.Hid (G3.n = 3) := Lib.hid (by rw [← hG3.out]; show G2.n + 1 = 3; rw [hn2.out])
  have hlk3 : RowKit.Hid (G3.link = 0) := Lib.hid (by rw [← hG3.out])
  have hB7 := Lib.hid (hB6.out.trans (hk7.below hns.out hB6.out.size))
  have hfi := fill_c 1 150 hS7
  replace hS7 := Lib.hid hS7
  clear hpu hk7 hB6 hS6 hr hdn hsl
  go_wp2_with fail
  refine hfi.mono ?_
  rintro e w8 ⟨rfl, hS8, hk8⟩
  obtain ⟨G4, hG4⟩ : ∃ y, RowKit.Hid (fillG 1 150 G3 = y) := ⟨_, Lib.hid rfl⟩
  rw [hG4.out] at hS8
  have hfo : fillOk 1 150 := by unfold fillOk okT; decide
  have hG4' : G4 = { G3 with tok := Sh.up G3.tok 1 (min (G3.tok 1 + 150) 1099511627776) } := by rw [← hG4.out]; unfold fillG; rw [if_pos hfo]; rfl
  have hQ4 : RowKit.Hid (G4.Q 0 = [inPt dW g0, inPt dW G1]) := Lib.hid (by rw [hG4']; exact hQ3.out)
  have htok4 : RowKit.Hid (G4.tok 1 = 150) := Lib.hid (by rw [hG4', htok3.out]; rfl)
  have hn4 : RowKit.Hid (G4.n = 3) := Lib.hid (by rw [hG4']; exact hn3.out)
  have hlk4 : RowKit.Hid (G4.link = 0) := Lib.hid (by rw [hG4']; exact hlk3.out)
  have hB8 := Lib.hid (hB7.out.trans (hk8.below hns.out hB7.out.size))
  have hpu2 := pump_c 500 hS8 (by rw [hn4.out]; omega) (by decide)
  replace hS8 := Lib.hid hS8
  rw [if_pos hfo]
  clear hfi hk8 hB7 hS7 hfo hG4'
  go_wp2_with fail
  refine hpu2.mono ?_
  rintro e w9 ⟨out, Ga, Gb, la, lb, ca, cb, vs, hr, hdn, rfl, hS9, hO9, hk9⟩
  have hdr : ∀ G : Gs, (inPt dW G).d.length = 92 := fun G => by show (dW.drop 8).length = 92; exact dropW
  obtain ⟨rfl, hQ9, htok9⟩ := pump_one (P := inPt dW g0) (P2 := inPt dW G1) hr hdn hN.out (by show min (G4.link + min (max 500 0) 1048576) 1048576 = 500; rw [hlk4.out]; decide) (by rw [hT.out]; rfl) hQ4.out (hdr _) (hdr _) htok4.out
  have hB9 := Lib.hid (hB8.out.trans (hk9.below hns.out hB8.out.size))
  obtain ⟨ad, rfl⟩ : ∃ ad, la = some ad := by
    cases la with
    | none => have := (hO9.s.nil rfl).1; simp at this
    | some ad => exact ⟨ad, rfl⟩
  obtain ⟨b6, o6, rfl, _, hc6, _, _⟩ := hO9.s.row ad rfl
  have x4 := hc6 4 (.int .i64 100) (by show some (Value.int .i64 (8 + ((inPt dW g0).d.length : Int))) = _; rw [hdr]; rfl)
  have ht9 := tokens_c 1 hS9
  rw [if_pos (show okT 1 by unfold okT; decide), show ((1 : Int)).toNat = 1 from rfl, htok9] at ht9
  have hw9 := waiting_c 0 hS9
  rw [if_pos (show (0 : Int) ≤ 0 ∧ (0 : Int) < (I.N : Int) by rw [hN.out]; decide), show ((0 : Int)).toNat = 0 from rfl, hQ9] at hw9
  have hwa := wants_c 1 hS9
  have hwn : wantN I Gb 1 I.N = 100 := by
    rw [hN.out]
    show 0 + (if I.T 0 = 1 then Fp.tot (Gb.Q 0) else 0) = 100
    rw [if_pos (by rw [hT.out]; rfl), hQ9]
    show 0 + (8 + (inPt dW G1).d.length + 0) = 100
    rw [hdr]
  rw [hwn] at hwa
  replace hO9 := Lib.hid hO9
  clear hpu2 hk9 hB8 hS8 hr hdn hdr hc6 hwn hQ9 htok9 hS9
  rw [show [(0, inPt dW g0)].length = 1 from rfl]
  go_wp2_with fail
  refine ht9.mono ?_
  rintro e w10 ⟨rfl, rfl⟩
  go_wp2_with fail
  refine hw9.mono ?_
  rintro e w11 ⟨rfl, rfl⟩
  go_wp2_with fail
  refine hwa.mono ?_
  rintro e w12 ⟨rfl, hb12⟩
  have hF := hB9.out.trans (hb12.mono hB9.out.size)
  clear hb12
  go_wp2_with fail
  go_ret
  exact ⟨rfl, hF⟩
set_option maxRecDepth 100000 in
theorem pump_nil (w : World) (b : Int) : Calls Try.prog 15 #[.pointer none, .int .i64 b] w fun e w' => e = .returned (.tuple #[.slice none 0 0, .slice none 0 0]) ∧ Below w.heap.size w w' := by
  have hB := (Below.refl w.heap.size w).alloc (Nat.le_refl _) (.cells #[.pointer none] 27)
  go_enter Try.func15, Try.ntmps15
  go_upto_region 3 with fail
  go_step3
  go_wp2_with fail
  try rw [Exit.noGoto_ret]
  exact bodyPost_ret (v := .tuple #[.slice none 0 0, .slice none 0 0]) (by simp [results, Try.results15, go_sem]) rfl ⟨rfl, hB⟩
set_option maxRecDepth 100000 in
theorem in_nil (w : World) (a : Option Addr) (n c : Nat) : Calls Try.prog 11 #[.pointer none, .slice a n c] w fun e w' => e = .returned (.tuple #[.int .i64 0, .int .i64 1]) ∧ w' = w := by
  go_enter Try.func11, Try.ntmps11
  go_wp2_with fail
  exact bodyPost_ret (v := .tuple #[.int .i64 0, .int .i64 1]) (by simp [results, Try.results11, go_sem]) rfl ⟨rfl, rfl⟩
set_option maxRecDepth 100000 in
set_option maxHeartbeats 4000000 in
theorem shaperNil_walk (w : World) (a0 : Int) (w0 : (Lit.int .i64 a0).wf = true) :
    Calls Try.prog 5 #[.int .i64 a0] w fun e w' => e = .returned (.bool true) ∧ Below w.heap.size w w' := by
  have h1 := Lib.hid (fun u => in_nil u none 0 0)
  have h2 := Lib.hid (fun u => drop_nil u a0)
  have h3 := Lib.hid (fun u => pump_nil u a0)
  have h4 := Lib.hid (fun u => fill_nil u a0 a0)
  have h5 := Lib.hid (fun u => tokens_nil u a0)
  have h6 := Lib.hid (fun u => waiting_nil u a0)
  have h7 := Lib.hid (fun u => wants_nil u a0)
  have h8 := Lib.hid (fun u => budget_nil u)
  clear w0
  go_enter Try.func5, Try.ntmps5
  go_wp2_with fail
  refine (h1.out _).mono ?_
  rintro e u1 ⟨rfl, rfl⟩
  go_wp2_with fail
  refine (h2.out _).mono ?_
  rintro e u2 ⟨rfl, rfl⟩
  go_wp2_with fail
  refine (h3.out _).mono ?_
  rintro e u3 ⟨rfl, hb3⟩
  go_wp2_with fail
  refine (h4.out _).mono ?_
  rintro e u4 ⟨rfl, rfl⟩
  go_wp2_with fail
  refine (h5.out _).mono ?_
  rintro e u5 ⟨rfl, rfl⟩
  go_wp2_with fail
  refine (h6.out _).mono ?_
  rintro e u6 ⟨rfl, rfl⟩
  go_wp2_with fail
  refine (h7.out _).mono ?_
  rintro e u7 ⟨rfl, rfl⟩
  go_wp2_with fail
  refine (h8.out _).mono ?_
  rintro e u8 ⟨rfl, rfl⟩
  have hwk := wakes27_c u8
  go_wp2_with fail
  refine hwk.mono ?_
  rintro e u9 ⟨rfl, hb9⟩
  have hF := hb3.trans (hb9.mono hb3.size)
  clear hb9 hwk
  go_wp2_with fail
  go_ret
  exact ⟨rfl, hF⟩
end Go.Proofs.Ytkefkophlhcbiaa
