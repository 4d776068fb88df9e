/- The shaper: the law of shares: its walk. The shaper: how the laws' arguments are opened; ShaperFair's walk. -/
import Derived.Test.YtkefkophlhcbiaaME
import Derived.Deep.Cut
import Derived.Deep.CutRange
import Derived.Deep.CutBlock
import Derived.Test.YtkefkophlhcbiaaOpen3
import Derived.SizedLaws
namespace Go.Proofs.Ytkefkophlhcbiaa
open Go.ChangeShapes Go.WideShapes Go.ChangeAt Go.RowKit Go.Deep
set_option linter.unusedVariables false
set_option linter.unusedSimpArgs false
open BigFrame Pk Sh Fa Fq Jw Jd
open By (Byt RowG blkO)
open Fp (Pt PQ PqP)
open Bs (IntRows cellB)
namespace Sh
def sX (so : List (Nat × Pt)) (i j : Nat) : Int := match j with
  | 2 => (so.getD i (0, ⟨0, 0, 0, []⟩)).2.t
  | 3 => ((so.getD i (0, ⟨0, 0, 0, []⟩)).1 : Nat)
  | 4 => 8 + ((so.getD i (0, ⟨0, 0, 0, []⟩)).2.d.length : Int)
  | 5 => (so.getD i (0, ⟨0, 0, 0, []⟩)).2.x
  | _ => 0
theorem own_int {w : World} {B m : Nat} {a : Option Addr} {c : Nat} {so : List (Nat × Pt)} (h : w.ownsRow B 55 6 (.slice a m c) so.length (sentC so)) : ∃ b off, IntRows w a b off so.length 6 (sX so) := by
  obtain ⟨a2, c2, e, hR, _⟩ := By.RowG.of_own h
  cases e
  cases a with
  | none =>
    have := (hR.nil rfl).1
    exact ⟨0, 0, ⟨fun q => by omega, fun q => by omega, fun i j hi hj => by omega⟩⟩
  | some ad =>
    obtain ⟨b, off, rfl, hb, hc, _, _⟩ := hR.row ad rfl
    refine ⟨b, off, ⟨fun _ => rfl, fun _ => hb, fun i j hi hj => ?_⟩⟩
    have e1 : so[i]? = some (so.getD i (0, ⟨0, 0, 0, []⟩)) := by rw [List.getD_eq_getElem?_getD, List.getElem?_eq_getElem hi]; rfl
    have h1 := sentC_at so i _ e1 j hj
    have hj6 : j = 0 ∨ j = 1 ∨ j = 2 ∨ j = 3 ∨ j = 4 ∨ j = 5 := by omega
    have h2 : (sentC so)[i * 6 + j]? = some (.int .i64 (sX so i j)) := by
      rw [h1]
      rcases hj6 with rfl | rfl | rfl | rfl | rfl | rfl <;> rfl
    have h3 := hc _ _ h2
    rw [← Nat.add_assoc] at h3
    exact h3
theorem sX_st {so : List (Nat × Pt)} (hz : ∀ kp, kp ∈ so → kp.2.d.length ≤ 1492) : stX (st2 so) (sX so) := by
  intro i hi
  rw [st2_len] at hi
  have e1 : so[i]? = some so[i] := List.getElem?_eq_getElem hi
  have e2 : (st2 so).getD i (0, 0) = (so[i].1, 8 + (so[i].2.d.length : Int)) := by
    unfold st2
    rw [List.getD_eq_getElem?_getD, List.getElem?_map, e1]
    rfl
  have e3 : so.getD i (0, ⟨0, 0, 0, []⟩) = so[i] := by rw [List.getD_eq_getElem?_getD, e1]; rfl
  have h := hz so[i] (List.getElem_mem hi)
  unfold szO
  rw [e2]
  refine ⟨?_, ?_, ?_, ?_⟩
  · show ((so.getD i (0, ⟨0, 0, 0, []⟩)).1 : Nat) = (_ : Int)
    rw [e3]
  · show 8 + ((so.getD i (0, ⟨0, 0, 0, []⟩)).2.d.length : Int) = _
    rw [e3]
  · show 0 ≤ 8 + (so[i].2.d.length : Int); omega
  · show 8 + (so[i].2.d.length : Int) ≤ 1500; omega
end Sh

set_option maxRecDepth 100000 in
set_option maxHeartbeats 40000000 in
theorem shaperFair_h (w0 : World) (af : Option Addr) (fb0 fo0 N cf : Nat) (X : Nat → Nat → Int) (hF : IntRows w0 af fb0 fo0 N 3 X) (hwf : ∀ i j, i < N → j < 3 → (Lit.int .i64 (X i j)).wf = true) (hN : N ≤ 9223372036854775807)
    (la : Option Addr) (n c : Nat) (f : Nat → Ac) (hA : AcAt w0 la n f) (hwfA : ∀ i, i < n → (Lit.int .i64 (f i).n).wf = true) (hn : n ≤ c) (hc : c ≤ 9223372036854775807) (hsz : ∀ i, i < n → (f i).m ≤ reachBytes) (flow : Int) :
    Calls Try.prog 3 #[.slice af N cf, .slice la n c, .int .i64 flow] w0 fun e w' => e = .returned (.bool true) ∧ Below w0.heap.size w0 w' := by
  have hgr := great27_c la n c f w0 hA hn hc hsz
  have zN : (N : Int) ≤ 9223372036854775807 := by omega
  replace hF := Lib.hid hF
  replace hA := Lib.hid hA
  replace hwf := Lib.hid hwf
  replace hwfA := Lib.hid hwfA
  clear hsz hn hc
  go_enter Try.func3, Try.ntmps3
  go_wp2_with fail
  refine hgr.mono ?_
  rintro e w1 ⟨gb, rfl, hgb, hB1⟩
  clear hgr
  replace hB1 := Lib.hid hB1
  cases gb with
  | true =>
    clear hgb
    have hwk := wakes27_c w1
    go_wp2_with fail
    refine hwk.mono ?_
    rintro e w' ⟨rfl, hB9⟩
    have hBf := Lib.hid (hB1.out.trans (hB9.mono hB1.out.size))
    clear hB9 hwk
    go_wp2_with fail
    exact bodyPost_ret (v := .bool true) (by simp [results, Try.results3, go_sem]) rfl ⟨rfl, hBf.out⟩
  | false =>
    by_cases h8 : (8 : Int) < (N : Int)
    · clear hgb
      have hwk := wakes27_c w1
      go_wp2_with fail
      refine hwk.mono ?_
      rintro e w' ⟨rfl, hB9⟩
      have hBf := Lib.hid (hB1.out.trans (hB9.mono hB1.out.size))
      clear hB9 hwk
      go_wp2_with fail
      exact bodyPost_ret (v := .bool true) (by simp [results, Try.results3, go_sem]) rfl ⟨rfl, hBf.out⟩
    by_cases hf0 : flow < 0
    · clear hgb
      have hwk := wakes27_c w1
      go_wp2_with fail
      refine hwk.mono ?_
      rintro e w' ⟨rfl, hB9⟩
      have hBf := Lib.hid (hB1.out.trans (hB9.mono hB1.out.size))
      clear hB9 hwk
      go_wp2_with fail
      exact bodyPost_ret (v := .bool true) (by simp [results, Try.results3, go_sem]) rfl ⟨rfl, hBf.out⟩
    by_cases hfN : (N : Int) ≤ flow
    · clear hgb
      have hwk := wakes27_c w1
      go_wp2_with fail
      refine hwk.mono ?_
      rintro e w' ⟨rfl, hB9⟩
      have hBf := Lib.hid (hB1.out.trans (hB9.mono hB1.out.size))
      clear hB9 hwk
      go_wp2_with fail
      exact bodyPost_ret (v := .bool true) (by simp [results, Try.results3, go_sem]) rfl ⟨rfl, hBf.out⟩
    have hgb2 := Lib.hid (hgb rfl)
    have hn120 : (n : Int) ≤ 120 := by have := hgb2.out.1; omega
    obtain ⟨fl, rfl⟩ : ∃ fl : Nat, flow = (fl : Int) := ⟨flow.toNat, by omega⟩
    have hflN : fl < N := by omega
    have hap0 := apart_c af fb0 fo0 N cf X w1 (hF.out.bel hB1.out) (by omega)
    clear hgb
    go_wp2_with fail
    refine hap0.mono ?_
    rintro e w11 ⟨(⟨hap, rfl⟩ | ⟨_, rfl⟩), hb11⟩
    rotate_left
    · have hB11 := Lib.hid (hB1.out.trans (hb11.mono hB1.out.size))
      clear hb11 hap0
      have hwk := wakes27_c w11
      go_wp2_with fail
      refine hwk.mono ?_
      rintro e w' ⟨rfl, hB9⟩
      have hBf := Lib.hid (hB11.out.trans (hB9.mono hB11.out.size))
      clear hB9 hwk
      go_wp2_with fail
      exact bodyPost_ret (v := .bool true) (by simp [results, Try.results3, go_sem]) rfl ⟨rfl, hBf.out⟩
    replace hap := Lib.hid hap
    have hB11 := Lib.hid (hB1.out.trans (hb11.mono hB1.out.size))
    clear hb11 hap0
    have hnew := snew_c w11 af fb0 fo0 N cf X (hF.out.bel hB11.out) hwf.out hN [] (by simp)
    go_wp2_with fail
    refine hnew.mono ?_
    rintro e w2 ⟨(⟨hnok, I, rfl, hS, hIN, hIT, hIW, hIR, hIA, hge⟩ | ⟨_, x, hx, rfl⟩), hb2⟩
    rotate_left
    · have hxb : (x == 0) = false := by simpa using hx
      have hxc : (x != 0) = true := by simpa using hx
      have hB2 := Lib.hid (hB11.out.trans (hb2.mono hB11.out.size))
      clear hb2 hnew
      have hwk := wakes27_c w2
      go_wp2_with fail
      refine hwk.mono ?_
      rintro e w' ⟨rfl, hB9⟩
      have hBf := Lib.hid (hB2.out.trans (hB9.mono hB2.out.size))
      clear hB9 hwk
      go_wp2_with fail
      exact bodyPost_ret (v := .bool true) (by simp [results, Try.results3, go_sem]) rfl ⟨rfl, hBf.out⟩
    have hB2 := Lib.hid (hB11.out.trans (hb2.mono hB11.out.size))
    have hWbd : RowKit.Hid (∀ i, i < I.N → 1 ≤ I.W i ∧ I.W i ≤ 16 ∧ I.W i ≤ I.ALL) := Lib.hid (by obtain ⟨_, _, _, _, hq⟩ := hS; exact hq.inv.w)
    have hten : RowKit.Hid (∀ i, i < I.N → 1 ≤ I.T i ∧ I.T i ≤ 16) := Lib.hid (by obtain ⟨_, _, _, _, hq⟩ := hS; exact hq.ten)
    have hsA : RowKit.Hid (sumW I.W I.N = I.ALL) := Lib.hid (by rw [hIN]; exact hIA.symm)
    have hflI : RowKit.Hid (fl < I.N) := Lib.hid (by rw [hIN]; exact hflN)
    have hapI : RowKit.Hid (∀ i, i < I.N → i ≠ fl → I.T i ≠ I.T fl) := Lib.hid (fun i hi hne => by
      rw [hIT]
      rw [hIN] at hi
      rcases Nat.lt_or_ge i fl with z | z
      · exact hap.out fl i hflN z
      · exact fun q => hap.out i fl hi (by omega) q.symm)
    have hL0 : RowKit.Hid (LFe I w0 w2 0 fl (.slice none 0 0) 0 0) := Lib.hid ⟨g0, [], ⟨⟨[], hS, fun q hq => by cases hq⟩, World.ownsRow_nil _ _ _ _, fun q hq => Nat.le_trans hB11.out.size (hge q hq), hB2.out⟩, PF.new hflI.out (fun i hi => ⟨(hWbd.out i hi).1, (hWbd.out i hi).2.2⟩), ⟨Nat.le_refl _, by show 0 + totQ (fun _ => []) I.N ≤ 0; rw [totQ_nil]; exact Nat.le_refl _⟩, by decide, fun kp hkp => by cases hkp⟩
    obtain ⟨own, how⟩ : ∃ y, RowKit.Hid (I.T fl = y) := ⟨_, Lib.hid rfl⟩
    have x0 := (hF.out.bel hB2.out).c fl 0 hflN (by omega)
    rw [Nat.add_zero, show X fl 0 = own by rw [← how.out, hIT]] at x0
    obtain rfl : af = some ⟨fb0, fo0, none⟩ := hF.out.ha (by omega)
    replace hIT := Lib.hid hIT
    replace hIN := Lib.hid hIN
    replace hIW := Lib.hid hIW
    clear hnew hb2 hge hIR hIA hS hnok
    have flz : (fl : Int) < (N : Int) := by omega
    go_wp2_with fail
    go_loopw [9, 10, 11, 14, 15, 16, 17, 18, 19, 20, 59] (fun s9 s10 s11 _ _ _ _ _ _ _ s59 wr => ∃ (k n1 c1 : Nat) (a1 : Option Addr) (least most : Int), k ≤ n ∧ s59 = .int .i64 (k : Nat) ∧ s9 = .int .i64 least ∧ s10 = .int .i64 most ∧ s11 = .slice a1 n1 c1 ∧ RowKit.Hid (LFe I w0 wr k fl (.slice a1 n1 c1) least most)) (fun _ _ _ _ _ _ _ _ _ _ s59 _ => n - (intOf s59).toNat)
    case atStart => exact ⟨0, 0, 0, none, 0, 0, Nat.zero_le _, rfl, rfl, rfl, rfl, hL0⟩
    case round =>
      clear hL0 x0
      obtain ⟨k, n1, c1, a1, least, most, hk, rfl, rfl, rfl, rfl, hLA⟩ := hrel
      obtain ⟨W, rfl⟩ : ∃ W : World, W = wr := ⟨_, rfl⟩
      have iz : (k : Int) ≤ (n : Int) := by omega
      by_cases hlt : k < n
      · have iz1 : (k : Int) < (n : Int) := by omega
        obtain ⟨G, so, hL⟩ := hLA.out
        have hAW := hA.out.bel hL.l.bel
        obtain ⟨lb, lo, rfl, hlb, hcl⟩ := hAW.row (by omega)
        obtain ⟨x0, x1, x2, x3⟩ := hcl k hlt
        have hby := hA.out.by_ k hlt
        have hm2 := hgb2.out.2 k hlt
        have hwn := hwfA.out k hlt
        obtain ⟨kk, hkk⟩ : ∃ y, RowKit.Hid ((f k).k = y) := ⟨_, Lib.hid rfl⟩
        obtain ⟨tt, htt⟩ : ∃ y, RowKit.Hid ((f k).t = y) := ⟨_, Lib.hid rfl⟩
        obtain ⟨nn, hnn⟩ : ∃ y, RowKit.Hid ((f k).n = y) := ⟨_, Lib.hid rfl⟩
        obtain ⟨xa, hxa⟩ : ∃ y, RowKit.Hid ((f k).a = y) := ⟨_, Lib.hid rfl⟩
        obtain ⟨xm, hxm⟩ : ∃ y, RowKit.Hid ((f k).m = y) := ⟨_, Lib.hid rfl⟩
        obtain ⟨xc, hxc⟩ : ∃ y, RowKit.Hid ((f k).c = y) := ⟨_, Lib.hid rfl⟩
        obtain ⟨xd, hxd⟩ : ∃ y, RowKit.Hid ((f k).d = y) := ⟨_, Lib.hid rfl⟩
        rw [hkk.out] at x0
        rw [htt.out] at x1
        rw [hnn.out] at x2 hwn
        rw [hxa.out, hxm.out, hxc.out] at x3
        rw [hxa.out, hxm.out, hxc.out, hxd.out] at hby
        rw [hxm.out] at hm2
        have hBx := (Below.refl W.heap.size W).alloc (Nat.le_refl _) (.cells #[.int .i64 kk, .int .i64 tt, .int .i64 nn, .slice xa xm xc] 36)
        have bx := By.blkN_new W [.int .i64 kk, .int .i64 tt, .int .i64 nn, .slice xa xm xc] 36
        have hL1 : RowKit.Hid (LF I w0 (W.alloc (.cells #[.int .i64 kk, .int .i64 tt, .int .i64 nn, .slice xa xm xc] 36)) k fl (.slice a1 n1 c1) least most G so) := Lib.hid ⟨hL.l.below hBx, hL.p, hL.n, hL.b, hL.z⟩
        have hlt' : RowKit.Hid (∀ q, (Value.slice a1 n1 c1).ownBlock = some q → q < W.heap.size) := Lib.hid (fun q hq => (hL.l.o.lt q hq).2)
        have hxge : w0.heap.size ≤ W.heap.size := hL.l.bel.size
        have hnsl : ∀ q, q ∈ I.ns → q < W.heap.size := fun q hq => by
          obtain ⟨L, ⟨_, _, _, _, hS⟩, _⟩ := hL.l.s
          exact hS.ns_lt q (List.mem_append_left _ hq)
        replace hby := Lib.hid hby
        replace hnsl := Lib.hid hnsl
        replace hwn := Lib.hid hwn
        replace hm2 := Lib.hid hm2
        clear hAW hcl hL hBx hLA
        go_upto_region 12 with fail
        clear x0 x1 x2 x3
        generalize (W.alloc (.cells #[.int .i64 kk, .int .i64 tt, .int .i64 nn, .slice xa xm xc] 36)) = U at bx hL1 ⊢
        obtain ⟨xb, hxb⟩ : ∃ q, W.heap.size = q := ⟨_, rfl⟩
        rw [hxb] at bx hlt' hnsl hxge ⊢
        clear hxb
        have b0 := bx.c 0 _ rfl
        have b1 := bx.c 1 _ rfl
        have b2 := bx.c 2 _ rfl
        have b3 := bx.c 3 _ rfl
        by_cases hk0 : kk = 0
        · subst hk0
          have hnU : RowKit.Hid (∀ q, q ∈ I.ns → q < U.heap.size) := Lib.hid (fun q hq => by obtain ⟨L, ⟨_, _, _, _, hS⟩, _⟩ := hL1.out.l.s; exact hS.ns_lt q (List.mem_append_left _ hq))
          have hp := rparseL_c xa xm xc xd U (hby.out.bel hL1.out.l.bel) (by have := hm2.out; omega)
          have bxh := Lib.hid bx
          go_wp2_with fail
          refine hp.mono ?_
          rintro e w5 ⟨(⟨hgd, p1, p2, p3, rfl⟩ | ⟨hgd, rfl⟩), hb5⟩
          · replace hgd := Lib.hid hgd
            obtain ⟨d1, hd1⟩ : ∃ y, RowKit.Hid (((xd.getD 1 0 : Nat) : Int) = y) := ⟨_, Lib.hid rfl⟩
            obtain ⟨d2, hd2⟩ : ∃ y, RowKit.Hid (((xd.getD 2 0 : Nat) : Int) = y) := ⟨_, Lib.hid rfl⟩
            rw [hd1.out, hd2.out]
            have hBp := hb5.alloc hb5.size (.cells #[.int .i64 0, .int .i64 d1, .int .i64 d2, .slice p1 p2 p3] 38)
            have bp := By.blkN_new w5 [.int .i64 0, .int .i64 d1, .int .i64 d2, .slice p1 p2 p3] 38
            have hL2 : RowKit.Hid (LF I w0 (w5.alloc (.cells #[.int .i64 0, .int .i64 d1, .int .i64 d2, .slice p1 p2 p3] 38)) k fl (.slice a1 n1 c1) least most G so) := Lib.hid ⟨hL1.out.l.below hBp, hL1.out.p, hL1.out.n, hL1.out.b, hL1.out.z⟩
            have bx2 := Lib.hid (bxh.out.bel hBp)
            have bp2 := Lib.hid bp
            have hnp : ∀ q, q ∈ I.ns → q < w5.heap.size := fun q hq => Nat.lt_of_lt_of_le (hnU.out q hq) hb5.size
            replace hnp := Lib.hid hnp
            clear hBp bp hb5 hp
            go_upto_region 15 with fail
            generalize (w5.alloc (.cells #[.int .i64 0, .int .i64 d1, .int .i64 d2, .slice p1 p2 p3] 38)) = U2 at bx2 bp2 hL2 ⊢
            obtain ⟨pb, hpb⟩ : ∃ q, w5.heap.size = q := ⟨_, rfl⟩
            rw [hpb] at bp2 hnp ⊢
            clear hpb hL1 b0 b1 b2 b3 bx
            obtain ⟨L, hS, hm⟩ := hL2.out.l.s
            have hin := in_c hS xa xm xc xd (hby.out.bel hL2.out.l.bel) (by have := hL2.out.n.1; omega)
            replace hS := Lib.hid hS
            replace hm := Lib.hid hm
            have b3 := bx2.out.c 3 _ rfl
            go_wp2_with fail
            refine hin.mono ?_
            rintro e w6 ⟨(⟨hok, rfl, hS5⟩ | ⟨hno, x, hx, G', rfl, hS5, hQ', ht', hl', hc', hxx, hn'⟩), hk5⟩
            · have hW5 := hL2.out.l.call hk5 hS5 hm.out
              have bx5 := hk5.blk bx2.out (fun z => by have := hnsl.out xb z; omega)
              have bp5 := hk5.blk bp2.out (fun z => by have := hnp.out pb z; omega)
              have b3 := bx5.c 3 _ rfl
              have q1 := bp5.c 1 _ rfl
              have hg := hok.1
              have hl8 : 8 ≤ xd.length ∧ xd.length ≤ 1500 := ⟨hg.1, hg.2.1⟩
              have hlm := hby.out.len
              have hdr : 8 + ((xd.drop 8).length : Int) = (xm : Int) := by rw [List.length_drop]; omega
              obtain ⟨mo2, hmo2⟩ : ∃ y, RowKit.Hid (Jd.mx most (xm : Int) = y) := ⟨_, Lib.hid rfl⟩
              obtain ⟨le2, hle2⟩ : ∃ y, RowKit.Hid (Jd.mx least (xm : Int) = y) := ⟨_, Lib.hid rfl⟩
              have hmo3 := hmo2.out
              have hle3 := hle2.out
              rw [Jd.mx_eq] at hmo3 hle3
              have hbb := hL2.out.b
              have hdk : dK I xd = fl ↔ d1 = own := by
                obtain ⟨k', e1, e2, e3⟩ := flow_ok hok.2.1
                have e4 : dK I xd = k' := by unfold dK; rw [e1, Int.toNat_natCast]
                rw [e4]
                constructor
                · intro e; rw [e] at e3; rw [← how.out, e3]; exact hd1.out.symm
                · intro e
                  rcases Nat.decEq k' fl with z | z
                  · exact absurd (show I.T k' = I.T fl by rw [e3, how.out, ← e]; exact hd1.out) (hapI.out k' e2 z)
                  · exact z
              by_cases hown : d1 = own
              · have hob : (d1 == own) = true := by simpa using hown
                have hL5 : RowKit.Hid (LF I w0 w6 (k + 1) fl (.slice a1 n1 c1) le2 mo2 (inG I xd G) so) := Lib.hid (hL2.out.in_ hsA.out hflI.out hok hW5 (by omega) (by omega) (by rw [hdr]; omega) (fun _ => by rw [hdr]; omega) (by omega) (by omega))
                clear hin hk5 hS5 hW5 hL2 bx5 bp5 hok hg hbb hmo3 hle3 hdk
                rw [hown] at q1
                go_wp2_with fail
                try rw [hmo2.out]
                try rw [hle2.out]
                go_roundw
                case rel => exact ⟨k + 1, n1, c1, a1, le2, mo2, by omega, by go_num, by first | rfl | (rw [← hle2.out, Jd.mx_eq, ← hlm]) | (rw [← hle2.out, Jd.mx_eq, hlm]), by first | rfl | (rw [← hmo2.out, Jd.mx_eq, ← hlm]) | (rw [← hmo2.out, Jd.mx_eq, hlm]), rfl, Lib.hid ⟨_, _, hL5.out⟩⟩
                case measure => simp [intOf]; omega
              · have hob : (d1 == own) = false := by simpa using hown
                have hL5 : RowKit.Hid (LF I w0 w6 (k + 1) fl (.slice a1 n1 c1) least mo2 (inG I xd G) so) := Lib.hid (hL2.out.in_ hsA.out hflI.out hok hW5 (by omega) (by omega) (by rw [hdr]; omega) (fun e => absurd (hdk.1 e) hown) (by omega) (by omega))
                clear hin hk5 hS5 hW5 hL2 bx5 bp5 hok hg hbb hmo3 hle3 hdk
                go_wp2_with fail
                go_roundw
                case rel => exact ⟨k + 1, n1, c1, a1, least, mo2, by omega, by go_num, rfl, by first | rfl | (rw [← hmo2.out, Jd.mx_eq, ← hlm]) | (rw [← hmo2.out, Jd.mx_eq, hlm]), rfl, Lib.hid ⟨_, _, hL5.out⟩⟩
                case measure => simp [intOf]; omega
            · have hxb2 : (x == 0) = false := by simpa using hx
              have hW5 := hL2.out.l.call hk5 hS5 hm.out
              have hL5 : RowKit.Hid (LF I w0 w6 (k + 1) fl (.slice a1 n1 c1) least most G' so) := Lib.hid (hL2.out.same hW5 hxx hQ' hn')
              clear hin hk5 hS5 hW5 hL2 hno hQ' ht' hl' hc' hxx hn' hx
              go_wp2_with fail
              go_roundw
              case rel => exact ⟨k + 1, n1, c1, a1, least, most, by omega, by go_num, rfl, rfl, rfl, Lib.hid ⟨_, _, hL5.out⟩⟩
              case measure => simp [intOf]; omega
          · replace hgd := Lib.hid hgd
            have hBp := hb5.alloc hb5.size (.cells #[.int .i64 0, .int .i64 0, .int .i64 0, .slice none 0 0] 38)
            have bp := By.blkN_new w5 [.int .i64 0, .int .i64 0, .int .i64 0, .slice none 0 0] 38
            have hL2 : RowKit.Hid (LF I w0 (w5.alloc (.cells #[.int .i64 0, .int .i64 0, .int .i64 0, .slice none 0 0] 38)) k fl (.slice a1 n1 c1) least most G so) := Lib.hid ⟨hL1.out.l.below hBp, hL1.out.p, hL1.out.n, hL1.out.b, hL1.out.z⟩
            have bx2 := Lib.hid (bxh.out.bel hBp)
            have bp2 := Lib.hid bp
            have hnp : ∀ q, q ∈ I.ns → q < w5.heap.size := fun q hq => Nat.lt_of_lt_of_le (hnU.out q hq) hb5.size
            replace hnp := Lib.hid hnp
            clear hBp bp hb5 hp
            go_upto_region 15 with fail
            generalize (w5.alloc (.cells #[.int .i64 0, .int .i64 0, .int .i64 0, .slice none 0 0] 38)) = U2 at bx2 bp2 hL2 ⊢
            obtain ⟨pb, hpb⟩ : ∃ q, w5.heap.size = q := ⟨_, rfl⟩
            rw [hpb] at bp2 hnp ⊢
            clear hpb hL1 b0 b1 b2 b3 bx
            obtain ⟨L, hS, hm⟩ := hL2.out.l.s
            have hin := in_c hS xa xm xc xd (hby.out.bel hL2.out.l.bel) (by have := hL2.out.n.1; omega)
            replace hS := Lib.hid hS
            replace hm := Lib.hid hm
            have b3 := bx2.out.c 3 _ rfl
            go_wp2_with fail
            refine hin.mono ?_
            rintro e w6 ⟨(⟨hok, rfl, hS5⟩ | ⟨hno, x, hx, G', rfl, hS5, hQ', ht', hl', hc', hxx, hn'⟩), hk5⟩
            · exact absurd hok.1 hgd.out
            · have hxb2 : (x == 0) = false := by simpa using hx
              have hW5 := hL2.out.l.call hk5 hS5 hm.out
              have hL5 : RowKit.Hid (LF I w0 w6 (k + 1) fl (.slice a1 n1 c1) least most G' so) := Lib.hid (hL2.out.same hW5 hxx hQ' hn')
              clear hin hk5 hS5 hW5 hL2 hno hQ' ht' hl' hc' hxx hn' hx
              go_wp2_with fail
              go_roundw
              case rel => exact ⟨k + 1, n1, c1, a1, least, most, by omega, by go_num, rfl, rfl, rfl, Lib.hid ⟨_, _, hL5.out⟩⟩
              case measure => simp [intOf]; omega
        · by_cases hk1 : kk = 1
          · subst hk1
            obtain ⟨L, hS, hm⟩ := hL1.out.l.s
            have hfi := fill_c tt nn hS
            replace hS := Lib.hid hS
            replace hm := Lib.hid hm
            go_wp2_with fail
            refine hfi.mono ?_
            rintro e w5 ⟨rfl, hS5, hk5⟩
            have hW5 := hL1.out.l.call hk5 hS5 hm.out
            have hL5 : RowKit.Hid (LF I w0 w5 (k + 1) fl (.slice a1 n1 c1) least most (fillG tt nn G) so) := Lib.hid (hL1.out.same hW5 (by unfold fillG; split <;> rfl) (by unfold fillG; split <;> rfl) (by unfold fillG; split <;> exact Nat.le_succ _))
            clear hfi hk5 hS5 hW5 b0 b1 b2 b3 bx hL1
            go_wp2_with fail
            go_roundw
            case rel => exact ⟨k + 1, n1, c1, a1, least, most, by omega, by go_num, rfl, rfl, rfl, Lib.hid ⟨_, _, hL5.out⟩⟩
            case measure => simp [intOf]; omega
          · by_cases hk3 : kk = 3
            · subst hk3
              obtain ⟨L, hS, hm⟩ := hL1.out.l.s
              have hwa := wants_c own hS
              have htk := Lib.hid (fun (u : World) (hu : Below U.heap.size U u) => tokens_c own (hS.bel hu))
              have hwo : wantN I G own I.N = Fp.tot (G.Q fl) := by rw [← how.out]; exact wantN_one I.N hflI.out hapI.out
              have hoT : okT own := by rw [← how.out]; exact hten.out fl hflI.out
              rw [hwo] at hwa
              rw [if_pos hoT] at htk
              obtain ⟨wv, hwv⟩ : ∃ y, RowKit.Hid (Fp.tot (G.Q fl) = y) := ⟨_, Lib.hid rfl⟩
              obtain ⟨tv, htv⟩ : ∃ y, RowKit.Hid (G.tok own.toNat = y) := ⟨_, Lib.hid rfl⟩
              rw [hwv.out] at hwa
              rw [htv.out] at htk
              clear hwo hoT
              replace hS := Lib.hid hS
              replace hm := Lib.hid hm
              have bxh := Lib.hid bx
              go_wp2_with fail
              refine hwa.mono ?_
              rintro e w5 ⟨rfl, hb5⟩
              have ht5 := htk.out w5 hb5
              have hL2 : RowKit.Hid (LF I w0 w5 k fl (.slice a1 n1 c1) least most G so) := Lib.hid ⟨hL1.out.l.below hb5, hL1.out.p, hL1.out.n, hL1.out.b, hL1.out.z⟩
              have bx5 := Lib.hid (bxh.out.bel hb5)
              clear hwa htk hS hm b0 b1 b2 b3 bx bxh hL1 hb5
              go_wp2_with fail
              refine ht5.mono ?_
              rintro e w6 ⟨rfl, rfl⟩
              clear ht5
              obtain ⟨L, hS, hm⟩ := hL2.out.l.s
              have b2 := bx5.out.c 2 _ rfl
              by_cases hgt : tv < (wv : Int)
              · have hpu := pump_c nn hS (by have := hL2.out.n.1; omega) hwn.out
                replace hS := Lib.hid hS
                replace hm := Lib.hid hm
                go_wp2_with fail
                refine hpu.mono ?_
                rintro e w7 ⟨o2, Ga, Gb, la2, lb2, ca2, cb2, vs2, hr, hdn, rfl, hS7, hO7, hk7⟩
                have hW7 := hL2.out.l.call hk7 hS7 hm.out
                have hL5 : RowKit.Hid (LF I w0 w7 (k + 1) fl (.slice none 0 0) least most Gb []) := Lib.hid (hL2.out.pump hsA.out hflI.out hr hdn hW7.drop)
                clear hpu hS7 hO7 hk7 hW7 hr hdn hL2
                go_wp2_with fail
                go_roundw
                case rel => exact ⟨k + 1, 0, 0, none, least, most, by omega, by go_num, rfl, rfl, rfl, Lib.hid ⟨_, _, hL5.out⟩⟩
                case measure => simp [intOf]; omega
              · have hpd := pumped_c (so := so) nn fl n1 c1 a1 hL2.out.l hflI.out (by have := hL2.out.n.1; omega) hwn.out (by have := hL2.out.n.2; omega) (fun out Ga r => by
                  have h1 := run_tot r
                  have h2 : totQ (startG nn G).Q I.N = totQ G.Q I.N := rfl
                  have h3 := hL2.out.n.2
                  omega)
                have hN8 : I.N ≤ 8 := by obtain ⟨_, _, _, _, hq⟩ := hS; exact hq.n1.2
                replace hS := Lib.hid hS
                replace hm := Lib.hid hm
                go_wp2_with fail
                refine hpd.mono ?_
                rintro e w7 ⟨o2, Ga, Gb, a', c', hr, hdn, rfl, hL7⟩
                obtain ⟨hPF, hz, hln, hT0, hT1⟩ := hL2.out.pumped hsA.out hflI.out hapI.out (fun i hi => (hten.out i hi).1) (by rw [how.out, hwv.out, htv.out]; omega) hr hdn hL7
                generalize foldSo fl (startSo fl G so) o2 = sw at hPF hz hln hT0 hT1 hL7 ⊢
                obtain ⟨so2, ws2⟩ := sw
                simp only at hPF hz hln hT0 hT1 hL7 ⊢
                obtain ⟨b8, o8, hI8⟩ := own_int hL7.o
                have hfo : Jd.FairOk X N (sX so2) so2.length (fl : Int) least most := by
                  have := fair_of hPF (F := X) (sX_st hz) hN8 hflI.out hIW.out (fun i hi => ⟨(hWbd.out i hi).1, (hWbd.out i hi).2.1⟩) hsA.out hL2.out.b.1 hL2.out.b.2
                  rw [st2_len, hIN.out] at this
                  exact this
                have hrf := rfair27_c true (some ⟨fb0, fo0, none⟩) a' fb0 fo0 N cf b8 o8 so2.length c' X (sX so2) (fl : Int) least most w7 (hF.out.bel hL7.bel) hI8 (by omega) (by omega) ⟨fun _ => hfo, fun _ => rfl⟩
                obtain ⟨m2, hm2e⟩ : ∃ y, RowKit.Hid (so2.length = y) := ⟨_, Lib.hid rfl⟩
                rw [hm2e.out] at hrf ⊢
                replace hT0 := Lib.hid hT0
                replace hT1 := Lib.hid hT1
                rw [hm2e.out] at hT1
                clear hpd hr hdn hPF hz hln hL7 hI8 hfo hL2
                go_wp2_with fail
                refine hrf.mono ?_
                rintro e w8 ⟨rfl, rfl⟩
                clear hrf
                by_cases hws : ws2 = 0
                · subst hws
                  have hL5 := Lib.hid (hT0.out rfl)
                  clear hT0 hT1
                  go_wp2_with fail
                  go_roundw
                  case rel => exact ⟨k + 1, 0, 0, none, least, most, by omega, by go_num, rfl, rfl, rfl, Lib.hid ⟨_, _, hL5.out⟩⟩
                  case measure => simp [intOf]; omega
                · have hwb : ((ws2 : Int) == 0) = false := by simp; omega
                  have hL5 := Lib.hid (hT1.out hws)
                  clear hT0 hT1
                  go_wp2_with fail
                  go_roundw
                  case rel => exact ⟨k + 1, m2, c', a', least, most, by omega, by go_num, rfl, rfl, rfl, Lib.hid ⟨_, _, hL5.out⟩⟩
                  case measure => simp [intOf]; omega
            · have q0 : (kk == 0) = false := by simpa using hk0
              have q1 : (kk == 1) = false := by simpa using hk1
              have q3 : (kk == 3) = false := by simpa using hk3
              have hL5 := Lib.hid (hL1.out.up (Nat.le_succ k))
              clear b1 b2 b3 hL1
              go_wp2_with fail
              go_roundw
              case rel => exact ⟨k + 1, n1, c1, a1, least, most, by omega, by go_num, rfl, rfl, rfl, Lib.hid ⟨_, _, hL5.out⟩⟩
              case measure => simp [intOf]; omega
      · have hkn : ¬ (k : Int) < (n : Int) := by omega
        obtain ⟨G, so, hL⟩ := hLA.out
        have hBW := Lib.hid hL.l.bel
        clear hL hLA
        have hwk := wakes27_c W
        go_wp2_with fail
        refine hwk.mono ?_
        rintro e w' ⟨rfl, hB9⟩
        have hBf := Lib.hid (hBW.out.trans (hB9.mono hBW.out.size))
        clear hB9 hwk
        go_wp2_with fail
        exact bodyPost_ret (v := .bool true) (by simp [results, Try.results3, go_sem]) rfl ⟨rfl, hBf.out⟩
end Go.Proofs.Ytkefkophlhcbiaa
namespace Go.Proofs.Ytkefkophlhcbiaa
open Go.ChangeShapes Go.WideShapes Go.ChangeAt Go.RowKit Go.Deep
set_option linter.unusedVariables false
set_option linter.unusedSimpArgs false
open Sh
open By (Byt)
open Bs

section
open Go.Deep
variable {H : Type} {enc : TypeId × Value → H} {P : Program} {w : World}
theorem open_intRows {r : Reach} {b0 k : Nat} {t e T : TypeId} {fs : Array Field} {v : Value} {d : DataW H} {p : List MemPlace} (ht : P.underlying t = some (.slice e)) (he : P.underlying e = some (.struct fs))
    (hone : oneCellFields P fs = true) (hC : P.cellsOf e = fs.size) (hk : fs.size = k) (hk0 : 0 < k) (hall : fs.toList.all (fun f => f.type == T) = true) (hT : P.underlying T = some (.int .i64))
    (hv : Value.okWide P w r b0 t v) (h : DataW.Trod enc P w 0 (fun _ => true) true t v d p) :
    ∃ (a : Option Addr) (b off len cap : Nat) (X : Nat → Nat → Int), v = .slice a len cap ∧ len ≤ cap ∧ cap ≤ 9223372036854775807 ∧ IntRows w a b off len k X ∧ ∀ i j, i < len → j < k → (Lit.int .i64 (X i j)).wf = true := by
  obtain ⟨a, len, cap, rfl, hl, hm, hrow⟩ := open_rows ht he hone hC hv h
  unfold maxLen at hm
  by_cases hp : 0 < len
  · obtain ⟨b, off, V, rfl, hb, hV⟩ := hrow hp (by omega)
    have hc : ∀ i j, i < len → j < k → w.cell? ⟨b, off + i * k + j, none⟩ = some (.int .i64 (RowKit.intOf (V i j))) ∧ (Lit.int .i64 (RowKit.intOf (V i j))).wf = true := fun i j hi hj => by
      have hjf : j < fs.size := by omega
      obtain ⟨h1, n, y, h2⟩ := hV i (by omega) j (fs[j]'hjf) (by simp [hjf])
      have hT2 : (fs[j]'hjf).type = T := by
        have := List.all_eq_true.1 hall (fs[j]'hjf) (by simp)
        simpa using this
      rw [hT2] at h2
      obtain ⟨e2, f2⟩ := trod_int' hT h2
      rw [e2, hk] at h1
      exact ⟨by simpa [Nat.add_assoc] using h1, f2⟩
    exact ⟨_, b, off, len, cap, fun i j => RowKit.intOf (V i j), rfl, hl, hm, ⟨fun _ => rfl, fun _ => hb, fun i j hi hj => (hc i j hi hj).1⟩, fun i j hi hj => (hc i j hi hj).2⟩
  · exact ⟨a, 0, 0, len, cap, fun _ _ => 0, rfl, hl, hm, ⟨fun h => absurd h hp, fun h => absurd h hp, fun i j hi hj => absurd hi (by omega)⟩, fun i j hi hj => absurd hi (by omega)⟩
end


structure XT_LFlow where
  a : Option Addr
  b : Nat
  off : Nat
  n : Nat
  cap : Nat
  X : Nat → Nat → Int
def Is_LFlow (w : World) (v : Value) (x : XT_LFlow) : Prop :=
  v = .slice x.a x.n x.cap ∧ x.n ≤ x.cap ∧ x.cap ≤ 9223372036854775807 ∧ IntRows w x.a x.b x.off x.n 3 x.X ∧ ∀ i j, i < x.n → j < 3 → (Lit.int .i64 (x.X i j)).wf = true
structure XT_LAct where
  a : Option Addr
  n : Nat
  c : Nat
  f : Nat → Ac
def Is_LAct (w : World) (v : Value) (x : XT_LAct) : Prop := v = .slice x.a x.n x.c ∧ x.n ≤ x.c ∧ x.c ≤ 9223372036854775807 ∧ AcAt w x.a x.n x.f ∧ ∀ i, i < x.n → (Lit.int .i64 (x.f i).n).wf = true
theorem by_u8 {n : Int} (h : (Lit.int .u8 n).wf = true) : 0 ≤ n ∧ n ≤ 255 := by
  simp [Lit.wf, IntKind.min, IntKind.max, IntKind.signed, IntKind.bits] at h
  omega
section
variable {H : Type} {enc : TypeId × Value → H} {w : World}
set_option maxRecDepth 100000 in
theorem open_LFlow {r : Reach} {b0 : Nat} {v : Value} {d : DataW H} {p : List MemPlace} (hv : Value.okWide Try.prog w r b0 22 v) (h : DataW.Trod enc Try.prog w 0 (fun _ => true) true 22 v d p) : ∃ x, Is_LFlow w v x := by
  obtain ⟨a, b, off, len, cap, X, h1, h2, h3, h4, h5⟩ := open_intRows (T := 3) (k := 3) Try.underlying22 Try.underlying33 (by kernel_rfl) (by kernel_rfl) (by rfl) (by omega) (by kernel_rfl) Try.underlying3 hv h
  exact ⟨⟨a, b, off, len, cap, X⟩, h1, h2, h3, h4, h5⟩
set_option maxRecDepth 100000 in
theorem by_bytes {n : Nat} {u : Value} {z : DataW H × List MemPlace} (h : DataW.trod enc Try.prog w 0 (fun _ => true) true n 34 [u] = some z) :
    ∃ a l c d, u = .slice a l c ∧ Byt w a l c d := by
  have k1 : Try.prog.cellsOf 5 = 1 := by kernel_rfl
  obtain ⟨a, len, cap, rfl, hl, hm, hrow⟩ := open_rowsN Try.underlying34 h (by rw [k1]; omega)
  rw [k1] at hrow
  unfold maxLen at hm
  by_cases hp : 0 < len
  · obtain ⟨b, off, V, n, rfl, hb, hV⟩ := hrow hp
    refine ⟨_, len, cap, (List.range len).map (fun i => (RowKit.intOf ((V i).getD 0 undef)).toNat), rfl, by simp, hl, hm, fun _ => ⟨b, off, rfl, hb, fun i x hx => ?_⟩⟩
    have hi : i < len := by have := (List.getElem?_eq_some_iff.1 hx).1; simpa using this
    simp [hi] at hx
    subst hx
    obtain ⟨q1, q2, z, q3⟩ := hV i (by omega)
    obtain ⟨x, hx⟩ : ∃ x, V i = [x] := List.length_eq_one_iff.1 q1
    rw [hx] at q2 q3
    obtain ⟨e4, f4⟩ := trod_int' Try.underlying5 q3
    have hb4 := by_u8 f4
    have hc := q2 0 x rfl
    have hg' : (RowKit.intOf ((V i)[0]?.getD undef)).toNat = (RowKit.intOf x).toNat := by rw [hx]; rfl
    rw [hg']
    refine ⟨?_, by omega⟩
    rw [e4] at hc
    rw [show (((RowKit.intOf x).toNat : Nat) : Int) = RowKit.intOf x by omega]
    simpa using hc
  · obtain rfl : len = 0 := by omega
    exact ⟨a, 0, cap, [], rfl, Byt.nil _ _ _ hm⟩
theorem ac_len4 {cs : List Value} (h : cs.length = 4) : ∃ x0 x1 x2 x3, cs = [x0, x1, x2, x3] := by
  match cs, h with
  | [x0, x1, x2, x3], _ => exact ⟨x0, x1, x2, x3, rfl⟩
set_option maxRecDepth 100000 in
theorem open_ac {n : Nat} {cs : List Value} {z : DataW H × List MemPlace} (hl : cs.length = 4) (h : DataW.trod enc Try.prog w 0 (fun _ => true) true n 36 cs = some z) :
    ∃ x : Ac, Byt w x.a x.m x.c x.d ∧ (Lit.int .i64 x.n).wf = true ∧ cs = [.int .i64 x.k, .int .i64 x.t, .int .i64 x.n, .slice x.a x.m x.c] := by
  obtain ⟨xs, n', _, hx, _, hlen, hg⟩ := DataW.trod_struct Try.underlying36 h
  have k1 : Try.prog.cellsOf 3 = 1 := by kernel_rfl
  have k4 : Try.prog.cellsOf 34 = 1 := by kernel_rfl
  obtain ⟨x0, x1, x2, x3, rfl⟩ := ac_len4 hl
  have s0 := hg 0 _ rfl
  have s1 := hg 1 _ rfl
  have s2 := hg 2 _ rfl
  have s3 := hg 3 _ rfl
  simp only [k1, k4, List.drop_succ_cons, List.drop_zero, List.take_succ_cons, List.take_zero, List.getElem_toArray, List.getElem_cons_zero, List.getElem_cons_succ] at s0 s1 s2 s3
  have l0 : 0 < xs.length := by rw [hlen]; decide
  have l1 : 1 < xs.length := by rw [hlen]; decide
  have l2 : 2 < xs.length := by rw [hlen]; decide
  have l3 : 3 < xs.length := by rw [hlen]; decide
  rw [List.getElem?_eq_getElem l0] at s0
  rw [List.getElem?_eq_getElem l1] at s1
  rw [List.getElem?_eq_getElem l2] at s2
  rw [List.getElem?_eq_getElem l3] at s3
  obtain ⟨e0, f0⟩ := trod_int' Try.underlying3 s0
  obtain ⟨e1, f1⟩ := trod_int' Try.underlying3 s1
  obtain ⟨e2, f2⟩ := trod_int' Try.underlying3 s2
  obtain ⟨a, dl, dc, d, rfl, hB⟩ := by_bytes s3
  refine ⟨⟨RowKit.intOf x0, RowKit.intOf x1, RowKit.intOf x2, a, dl, dc, d⟩, hB, f2, ?_⟩
  rw [← e0, ← e1, ← e2]
set_option maxRecDepth 100000 in
theorem open_LAct {r : Reach} {b0 : Nat} {v : Value} {d : DataW H} {p : List MemPlace} (hv : Value.okWide Try.prog w r b0 23 v) (h : DataW.Trod enc Try.prog w 0 (fun _ => true) true 23 v d p) : ∃ x, Is_LAct w v x := by
  obtain ⟨a0, len0, cap0, rfl⟩ := okWide_slice Try.underlying23 hv
  obtain ⟨fuel, hf⟩ := h
  have k6 : Try.prog.cellsOf 36 = 4 := by kernel_rfl
  obtain ⟨a, len, cap, e, hl, hm, hrow⟩ := open_rowsN (u := .slice a0 len0 cap0) Try.underlying23 hf (by rw [k6]; omega)
  cases e
  rw [k6] at hrow
  unfold maxLen at hm
  by_cases hp : 0 < len0
  · obtain ⟨b, off, V, n, rfl, hb, hV⟩ := hrow hp
    have hE : ∀ i, ∃ x : Ac, i < cap0 → Byt w x.a x.m x.c x.d ∧ (Lit.int .i64 x.n).wf = true ∧ V i = [.int .i64 x.k, .int .i64 x.t, .int .i64 x.n, .slice x.a x.m x.c] := fun i => by
      by_cases hi : i < cap0
      · obtain ⟨q1, _, z, q3⟩ := hV i hi
        obtain ⟨x, r1, r2, r3⟩ := open_ac q1 q3
        exact ⟨x, fun _ => ⟨r1, r2, r3⟩⟩
      · exact ⟨⟨0, 0, 0, none, 0, 0, []⟩, fun h => absurd h hi⟩
    obtain ⟨f, hf'⟩ := Classical.axiomOfChoice hE
    refine ⟨⟨_, len0, cap0, f⟩, rfl, hl, hm, ⟨fun _ => ⟨b, off, rfl, hb, fun i hi => ?_⟩, fun i hi => (hf' i (by simp only at hi; omega)).1⟩, fun i hi => (hf' i (by simp only at hi; omega)).2.1⟩
    simp only at hi
    obtain ⟨_, q2, _⟩ := hV i (by omega)
    rw [(hf' i (by omega)).2.2] at q2
    refine ⟨?_, ?_, ?_, ?_⟩
    · have := q2 0 _ rfl; rwa [Nat.add_zero] at this
    · have := q2 1 _ rfl; rwa [← Nat.add_assoc] at this
    · have := q2 2 _ rfl; rwa [← Nat.add_assoc] at this
    · have := q2 3 _ rfl; rwa [← Nat.add_assoc] at this
  · exact ⟨⟨a0, len0, cap0, fun _ => ⟨0, 0, 0, none, 0, 0, []⟩⟩, rfl, hl, hm, ⟨fun h => absurd h hp, fun i hi => absurd hi (by simp only at *; omega)⟩, fun i hi => absurd hi (by simp only at *; omega)⟩
theorem wt_all {P : Program} {e : TypeId} : ∀ {ds : List (DataW H)} {d : DataW H}, d ∈ ds → ∀ n ∈ d.weights P e, n ∈ DataW.weightsAll P e ds
  | d0 :: ds, d, hd, n, hn => by
    simp only [DataW.weightsAll, List.mem_append]
    rcases List.mem_cons.1 hd with rfl | hd
    · exact .inl hn
    · exact .inr (wt_all hd n hn)
  | [], _, hd, _, _ => by simp at hd
set_option maxRecDepth 100000 in
theorem wt_bytes {n : Nat} {a : Option Addr} {l c : Nat} {z : DataW H × List MemPlace} (h : DataW.trod enc Try.prog w 0 (fun _ => true) true n 34 [.slice a l c] = some z) (hw : ∀ k ∈ z.1.weights Try.prog 34, k ≤ reachBytes) : l ≤ reachBytes := by
  have k1 : Try.prog.bytesOf 5 = 1 := by kernel_rfl
  rcases open_slice Try.underlying34 h with ⟨hcs, _⟩ | ⟨x, l', c', m, n, D, Pl, hcs, _, hl, hm, hmm, hz, hi⟩
  · simp at hcs
    omega
  · simp at hcs
    obtain ⟨_, rfl, rfl⟩ := hcs
    subst hz
    have := hw ((l + (m - l)) * 1) (by simp [DataW.weights, Try.underlying34, k1])
    omega
set_option maxRecDepth 100000 in
theorem wt_ac {n : Nat} {cs : List Value} {a : Option Addr} {l c : Nat} {z : DataW H × List MemPlace} (hl : cs.length = 4) (h4 : cs[3]? = some (.slice a l c)) (h : DataW.trod enc Try.prog w 0 (fun _ => true) true n 36 cs = some z) (hw : ∀ k ∈ z.1.weights Try.prog 36, k ≤ reachBytes) : l ≤ reachBytes := by
  obtain ⟨xs, n', _, hx, _, hlen, hg⟩ := DataW.trod_struct Try.underlying36 h
  subst hx
  have k4 : Try.prog.cellsOf 34 = 1 := by kernel_rfl
  obtain ⟨x0, x1, x2, x3, rfl⟩ := ac_len4 hl
  simp at h4
  subst h4
  have t4 := hg 3 _ rfl
  simp only [k4, List.drop_succ_cons, List.drop_zero, List.take_succ_cons, List.take_zero, List.getElem_toArray, List.getElem_cons_zero, List.getElem_cons_succ] at t4
  have hx4 : 3 < xs.length := by rw [hlen]; decide
  rw [List.getElem?_eq_getElem hx4] at t4
  refine wt_bytes t4 (fun k hk => hw k ?_)
  simp only [DataW.weights, Try.underlying36]
  exact DataW.weights_mem_each (j := 3) (t := 34) (by rfl) (by rw [List.getElem?_map, List.getElem?_eq_getElem hx4]; rfl) k hk
set_option maxRecDepth 100000 in
theorem wt_LAct {v : Value} {x : XT_LAct} {d : DataW H} {p : List MemPlace} (hx : Is_LAct w v x) (h : DataW.Trod enc Try.prog w 0 (fun _ => true) true 23 v d p) (hw : ∀ k ∈ d.weights Try.prog 23, k ≤ reachBytes) : ∀ i, i < x.n → (x.f i).m ≤ reachBytes := by
  obtain ⟨rfl, hle, _, hB, _⟩ := hx
  obtain ⟨fuel, hf0⟩ := h
  have hf : DataW.trod enc Try.prog w 0 (fun _ => true) true fuel 23 [.slice x.a x.n x.c] = some (d, p) := hf0
  clear hf0
  intro i hi
  obtain ⟨b, off, ha, hb, hc⟩ := hB.row (by omega)
  obtain ⟨_, _, _, hci⟩ := hc i hi
  have k5 : Try.prog.cellsOf 36 = 4 := by kernel_rfl
  rcases open_slice Try.underlying23 hf with ⟨hcs, _⟩ | ⟨x', l', c', m, n, D, Pl, hcs, _, hl, hm, hmm, hz, hi'⟩
  · simp at hcs
    omega
  · simp at hcs
    obtain ⟨hxa, rfl, rfl⟩ := hcs
    simp only [if_true] at hmm
    subst hmm
    cases hz
    rw [ha] at hxa
    cases hxa
    obtain ⟨cs', h1, h2⟩ := hi' i (by omega)
    rw [k5] at h1
    obtain ⟨_, hlen, hat⟩ := World.cells?_some h1
    have h4 := hat 3 (by omega)
    rw [Addr.add_lit, Addr.add_lit] at h4
    rw [hci] at h4
    refine wt_ac hlen h4.symm h2 (fun k hk => hw k ?_)
    simp only [DataW.weights, Try.underlying23, List.mem_cons, List.mem_append]
    refine .inr (.inl (wt_all (List.mem_map.2 ⟨i, by simp; omega, rfl⟩) k hk))
end
theorem shaperFair_walk (w : World) (v0 : Value) (a0 : XT_LFlow) (v1 : Value) (a1 : XT_LAct) (a2 : Int) (w0 : Is_LFlow w v0 a0) (w1 : Is_LAct w v1 a1) (w2 : (Lit.int .i64 a2).wf = true) (hz1 : ∀ i, i < a1.n → (a1.f i).m ≤ reachBytes) :
    Calls Try.prog 3 #[v0, v1, .int .i64 a2] w fun e w' => e = .returned (.bool true) ∧ Below w.heap.size w w' := by
  obtain ⟨rfl, h1, h2, hF, hwf⟩ := w0
  obtain ⟨rfl, h3, h4, hA, hwfA⟩ := w1
  exact shaperFair_h w a0.a a0.b a0.off a0.n a0.cap a0.X hF hwf (by omega) a1.a a1.n a1.c a1.f hA hwfA h3 h4 hz1 a2
end Go.Proofs.Ytkefkophlhcbiaa
