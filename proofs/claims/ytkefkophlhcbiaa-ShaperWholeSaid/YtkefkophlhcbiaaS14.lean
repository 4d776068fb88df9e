/- The shaper: what goes out is what came in: the law's walk. -/
import Derived.Test.YtkefkophlhcbiaaS16
import Derived.Deep.Cut
import Derived.Deep.CutRange
import Derived.Deep.CutBlock
namespace Go.Proofs.Ytkefkophlhcbiaa
open Go.ChangeShapes Go.WideShapes Go.ChangeAt Go.RowKit Go.Deep
set_option linter.unusedVariables false
set_option linter.unusedSimpArgs false
open BigFrame Pk Sh Fa Fq Jw
open By (Byt RowG blkO)
open Fp (Pt PQ PqP)
open Bs (IntRows cellB)

theorem totQ_mono {Q : Nat → List Pt} {m n : Nat} (h : m ≤ n) : totQ Q m ≤ totQ Q n := by
  induction n with
  | zero => exact Nat.le_of_eq (by rw [show m = 0 by omega])
  | succ n ih =>
    by_cases e : m = n + 1
    · rw [e]; exact Nat.le_refl _
    · exact Nat.le_trans (ih (by omega)) (Nat.le_add_right _ _)
set_option maxRecDepth 100000 in
set_option maxHeartbeats 40000000 in
theorem shaperWhole_h (w0 : World) (af : Option Addr) (fb0 fo0 N cf : Nat) (X : Nat → Nat → Int) (hF : IntRows w0 af fb0 fo0 N 3 X) (hwf : ∀ i j, i < N → j < 3 → (Lit.int .i64 (X i j)).wf = true) (hN : N ≤ 9223372036854775807)
    (la : Option Addr) (n c : Nat) (f : Nat → Ac) (hA : AcAt w0 la n f) (hwfA : ∀ i, i < n → (Lit.int .i64 (f i).n).wf = true) (hn : n ≤ c) (hc : c ≤ 9223372036854775807) (hsz : ∀ i, i < n → (f i).m ≤ reachBytes) :
    Calls Try.prog 4 #[.slice af N cf, .slice la n c] w0 fun e w' => e = .returned (.bool true) ∧ Below w0.heap.size w0 w' := by
  have hgr := great27_c la n c f w0 hA hn hc hsz
  have zN : (N : Int) ≤ 9223372036854775807 := by omega
  replace hF := Lib.hid hF
  replace hA := Lib.hid hA
  replace hwf := Lib.hid hwf
  replace hwfA := Lib.hid hwfA
  clear hsz hn hc
  go_enter Try.func4, Try.ntmps4
  go_wp2_with fail
  refine hgr.mono ?_
  rintro e w1 ⟨gb, rfl, hgb, hB1⟩
  clear hgr
  replace hB1 := Lib.hid hB1
  cases gb with
  | true =>
    have hwk := wakes27_c w1
    clear hgb
    go_wp2_with fail
    refine hwk.mono ?_
    rintro e w' ⟨rfl, hB9⟩
    have hBf := Lib.hid (hB1.out.trans (hB9.mono hB1.out.size))
    clear hB9 hwk
    go_wp2_with fail
    exact bodyPost_ret (v := .bool true) (by simp [results, Try.results4, go_sem]) rfl ⟨rfl, hBf.out⟩
  | false =>
    by_cases h60 : (60 : Int) < (N : Int)
    · have hwk := wakes27_c w1
      clear hgb
      go_wp2_with fail
      refine hwk.mono ?_
      rintro e w' ⟨rfl, hB9⟩
      have hBf := Lib.hid (hB1.out.trans (hB9.mono hB1.out.size))
      clear hB9 hwk
      go_wp2_with fail
      exact bodyPost_ret (v := .bool true) (by simp [results, Try.results4, go_sem]) rfl ⟨rfl, hBf.out⟩
    have hgb2 := Lib.hid (hgb rfl)
    have hn120 : (n : Int) ≤ 120 := by have := hgb2.out.1; omega
    have hnew := snew_c w1 af fb0 fo0 N cf X (hF.out.bel hB1.out) hwf.out hN [] (by simp)
    clear hgb
    go_wp2_with fail
    refine hnew.mono ?_
    rintro e w2 ⟨(⟨_, I, rfl, hS, hIN, hIT, hIW, hIR, hIA, hge⟩ | ⟨_, x, hx, rfl⟩), hb2⟩
    rotate_left
    · have hxb : (x == 0) = false := by simpa using hx
      have hxc : (x != 0) = true := by simpa using hx
      have hwk := wakes27_c w2
      have hB2 := Lib.hid (hB1.out.trans (hb2.mono hB1.out.size))
      clear hb2 hnew
      go_wp2_with fail
      refine hwk.mono ?_
      rintro e w' ⟨rfl, hB9⟩
      have hBf := Lib.hid (hB2.out.trans (hB9.mono hB2.out.size))
      clear hB9 hwk
      go_wp2_with fail
      exact bodyPost_ret (v := .bool true) (by simp [results, Try.results4, go_sem]) rfl ⟨rfl, hBf.out⟩
    have hB2 := Lib.hid (hB1.out.trans (hb2.mono hB1.out.size))
    have hns : RowKit.Hid (∀ q, q ∈ I.ns → w0.heap.size ≤ q) := Lib.hid (fun q hq => Nat.le_trans hB1.out.size (hge q hq))
    replace hS := Lib.hid hS
    replace hIT := Lib.hid hIT
    replace hIN := Lib.hid hIN
    clear hnew hb2 hge hIW hIR hIA
    go_upto_region 9 with fail
    have hBa := (Below.refl w2.heap.size w2).alloc (Nat.le_refl _) (.cells #[.int .i64 0, .int .i64 0, .int .i64 0, .int .i64 0, .int .i64 0, .int .i64 0, .int .i64 0, .int .i64 0, .int .i64 0, .int .i64 0, .int .i64 0, .int .i64 0, .int .i64 0, .int .i64 0, .int .i64 0, .int .i64 0, .int .i64 0] 52)
    have btk : Bs.Blk (w2.alloc (.cells #[.int .i64 0, .int .i64 0, .int .i64 0, .int .i64 0, .int .i64 0, .int .i64 0, .int .i64 0, .int .i64 0, .int .i64 0, .int .i64 0, .int .i64 0, .int .i64 0, .int .i64 0, .int .i64 0, .int .i64 0, .int .i64 0, .int .i64 0] 52)) w2.heap.size (tokC (fun _ => 0)) := By.blkN_new w2 [.int .i64 0, .int .i64 0, .int .i64 0, .int .i64 0, .int .i64 0, .int .i64 0, .int .i64 0, .int .i64 0, .int .i64 0, .int .i64 0, .int .i64 0, .int .i64 0, .int .i64 0, .int .i64 0, .int .i64 0, .int .i64 0, .int .i64 0] 52
    have hLA0 : RowKit.Hid (LAe I w0 (w2.alloc (.cells #[.int .i64 0, .int .i64 0, .int .i64 0, .int .i64 0, .int .i64 0, .int .i64 0, .int .i64 0, .int .i64 0, .int .i64 0, .int .i64 0, .int .i64 0, .int .i64 0, .int .i64 0, .int .i64 0, .int .i64 0, .int .i64 0, .int .i64 0] 52)) 0 w2.heap.size (.slice none 0 0) (.slice none 0 0) (.slice none 0 0)) := Lib.hid (by
      obtain ⟨tb, ct, pos, kd, hS0⟩ := hS.out
      obtain ⟨kd2, hS2⟩ := hS0.more hBa (M := [w2.heap.size]) (fun q hq => by simp at hq; subst hq; exact ⟨Nat.le_refl _, by simp⟩)
      refine ⟨g0, [], [], [], fun c => if c = w2.heap.size then 1 else 0, ⟨⟨⟨_, ⟨tb, ct, pos, kd2, hS2⟩, fun q hq => ?_⟩, btk, World.ownsRow_nil _ _ _ _, World.ownsRow_nil _ _ _ _, World.ownsRow_nil _ _ _ _, fun j kp hj => by simp at hj, ⟨if_pos rfl, fun q hq => (by cases hq), fun q hq => (by cases hq), fun q hq => (by cases hq)⟩, hns.out, hB2.out.size, hB2.out.trans (hBa.mono hB2.out.size)⟩, ⟨rfl, fun k hk p hp => (by cases hp), fun kp hkp => (by simp at hkp), fun k hk => List.Pairwise.nil, ?_⟩, fun iv hiv => (by simp at hiv), ⟨Nat.le_refl _, Nat.le_refl _⟩, fun i hi => ?_⟩⟩
      · rcases hq with e | e | e | e
        · rw [e]; simp
        · cases e
        · cases e
        · cases e
      · show 0 = 0 + totQ (fun _ => []) I.N
        rw [totQ_nil]
      · show (0 : Int) ≤ ((0 : Nat) : Int) * 1000000
        omega)
    generalize (w2.alloc (.cells #[.int .i64 0, .int .i64 0, .int .i64 0, .int .i64 0, .int .i64 0, .int .i64 0, .int .i64 0, .int .i64 0, .int .i64 0, .int .i64 0, .int .i64 0, .int .i64 0, .int .i64 0, .int .i64 0, .int .i64 0, .int .i64 0, .int .i64 0] 52)) = U0 at hLA0 ⊢
    obtain ⟨tk, htk⟩ : ∃ q, w2.heap.size = q := ⟨_, rfl⟩
    rw [htk] at hLA0 ⊢
    clear htk hBa btk hS hB2 hns
    go_wp2_with fail
    go_loopw [7, 8, 9, 12, 13, 14, 15, 16, 17, 18, 19, 20, 41] (fun s7 s8 s9 _ _ _ _ _ _ _ _ _ s41 wr => ∃ (k n7 n8 n9 c7 c8 c9 : Nat) (a7 a8 a9 : Option Addr), k ≤ n ∧ s41 = .int .i64 (k : Nat) ∧ s7 = .slice a7 n7 c7 ∧ s8 = .slice a8 n8 c8 ∧ s9 = .slice a9 n9 c9 ∧ RowKit.Hid (LAe I w0 wr k tk (.slice a7 n7 c7) (.slice a9 n9 c9) (.slice a8 n8 c8))) (fun _ _ _ _ _ _ _ _ _ _ _ _ s41 _ => n - (intOf s41).toNat)
    case atStart => exact ⟨0, 0, 0, 0, 0, 0, 0, none, none, none, Nat.zero_le _, rfl, rfl, rfl, rfl, hLA0⟩
    case round =>
      clear hLA0
      obtain ⟨k, n7, n8, n9, c7, c8, c9, a7, a8, a9, hk, rfl, rfl, rfl, rfl, hLA⟩ := hrel
      obtain ⟨W, rfl⟩ : ∃ W : World, W = wr := ⟨_, rfl⟩
      have iz : (k : Int) ≤ (n : Int) := by omega
      by_cases hlt : k < n
      · have iz1 : (k : Int) < (n : Int) := by omega
        obtain ⟨G, ins, out, vs, kd, hL⟩ := hLA.out
        have hAW := hA.out.bel hL.l.bel
        obtain ⟨lb, lo, rfl, hlb, hcl⟩ := hAW.row (by omega)
        obtain ⟨x0, x1, x2, x3⟩ := hcl k hlt
        have hby := hA.out.by_ k hlt
        have hm2 := hgb2.out.2 k hlt
        have hwn := hwfA.out k hlt
        obtain ⟨kk, hkk⟩ : ∃ y, RowKit.Hid ((f k).k = y) := ⟨_, Lib.hid rfl⟩
        obtain ⟨tt, htt⟩ : ∃ y, RowKit.Hid ((f k).t = y) := ⟨_, Lib.hid rfl⟩
        obtain ⟨nn, hnn⟩ : ∃ y, RowKit.Hid ((f k).n = y) := ⟨_, Lib.hid rfl⟩
        obtain ⟨xa, hxa⟩ : ∃ y, RowKit.Hid ((f k).a = y) := ⟨_, Lib.hid rfl⟩
        obtain ⟨xm, hxm⟩ : ∃ y, RowKit.Hid ((f k).m = y) := ⟨_, Lib.hid rfl⟩
        obtain ⟨xc, hxc⟩ : ∃ y, RowKit.Hid ((f k).c = y) := ⟨_, Lib.hid rfl⟩
        obtain ⟨xd, hxd⟩ : ∃ y, RowKit.Hid ((f k).d = y) := ⟨_, Lib.hid rfl⟩
        rw [hkk.out] at x0
        rw [htt.out] at x1
        rw [hnn.out] at x2 hwn
        rw [hxa.out, hxm.out, hxc.out] at x3
        rw [hxa.out, hxm.out, hxc.out, hxd.out] at hby
        rw [hxm.out] at hm2
        have hBx := (Below.refl W.heap.size W).alloc (Nat.le_refl _) (.cells #[.int .i64 kk, .int .i64 tt, .int .i64 nn, .slice xa xm xc] 36)
        have bx := By.blkN_new W [.int .i64 kk, .int .i64 tt, .int .i64 nn, .slice xa xm xc] 36
        have hL1 : RowKit.Hid (LA I w0 (W.alloc (.cells #[.int .i64 kk, .int .i64 tt, .int .i64 nn, .slice xa xm xc] 36)) k tk (.slice a7 n7 c7) (.slice a9 n9 c9) (.slice a8 n8 c8) G ins out vs kd) := Lib.hid ⟨hL.l.below hBx, hL.i, hL.x, hL.n, hL.t⟩
        have hlt' := hL.l.lt
        have hns := hL.l.ns
        have hxge : w0.heap.size ≤ W.heap.size := hL.l.bel.size
        have hn7 := own_len hL.l.i
        have hn8 := own_len hL.l.b
        have hn9 := own_len hL.l.o
        have hnsl : ∀ q, q ∈ I.ns → q < W.heap.size := fun q hq => by
          obtain ⟨L, ⟨_, _, _, _, hS⟩, _⟩ := hL.l.s
          exact hS.ns_lt q (List.mem_append_left _ hq)
        replace hby := Lib.hid hby
        replace hlt' := Lib.hid hlt'
        replace hnsl := Lib.hid hnsl
        replace hns := Lib.hid hns
        replace hn7 := Lib.hid hn7
        replace hn8 := Lib.hid hn8
        replace hn9 := Lib.hid hn9
        replace hwn := Lib.hid hwn
        replace hm2 := Lib.hid hm2
        clear hAW hcl hL hBx hLA
        go_upto_region 12 with fail
        clear x0 x1 x2 x3
        generalize (W.alloc (.cells #[.int .i64 kk, .int .i64 tt, .int .i64 nn, .slice xa xm xc] 36)) = U at bx hL1 ⊢
        obtain ⟨xb, hxb⟩ : ∃ q, W.heap.size = q := ⟨_, rfl⟩
        rw [hxb] at bx hlt' hnsl hxge ⊢
        clear hxb
        have b0 := bx.c 0 _ rfl
        go_upto_block 2 with fail
        go_cut [7, 8, 9, 13, 14, 15, 16, 17, 18, 19] from 42 to 197 (fun s7 s8 s9 _ _ _ _ _ _ _ wx => ∃ (n7 n8 n9 c7 c8 c9 : Nat) (a7 a8 a9 : Option Addr), s7 = .slice a7 n7 c7 ∧ s8 = .slice a8 n8 c8 ∧ s9 = .slice a9 n9 c9 ∧ RowKit.Hid (LAe I w0 wx (k + 1) tk (.slice a7 n7 c7) (.slice a9 n9 c9) (.slice a8 n8 c8)))
        case first =>
          have b1 := bx.c 1 _ rfl
          have b2 := bx.c 2 _ rfl
          have b3 := bx.c 3 _ rfl
          by_cases hk0 : kk = 0
          · subst hk0
            obtain ⟨L, hS, hm⟩ := hL1.out.l.s
            have hin := in_c hS xa xm xc xd (hby.out.bel hL1.out.l.bel) (by have := hL1.out.n.1; omega)
            replace hS := Lib.hid hS
            replace hm := Lib.hid hm
            have bxh := Lib.hid bx
            go_wp2_with fail
            refine hin.mono ?_
            rintro e w5 ⟨(⟨hok, rfl, hS5⟩ | ⟨hno, x, hx, G', rfl, hS5, hQ', ht', hl', hc', _, hn'⟩), hk5⟩
            · have hcm : (G.came : Int) = (n7 : Int) := by have := hL1.out.i.n; have := hn7.out; omega
              rw [hcm]
              have hW5 := hL1.out.l.call hk5 hS5 hm.out
              have bx5 := hk5.blk bxh.out (fun z => by have := hnsl.out xb z; omega)
              have c3 := bx5.c 3 _ rfl
              obtain ⟨j0, hj0, hy0, hy1, hy2⟩ := info_parts info_bys
              have hBb := (Below.refl w5.heap.size w5).alloc (Nat.le_refl _) (.cells #[.slice xa xm xc] 34)
              have hnb := By.blkN_new w5 [.slice xa xm xc] 34
              have hW6 := Lib.hid (hW5.below hBb)
              have hown := hW6.out.i
              rw [← hn7.out] at hown
              have hus := hW6.out.bel.size
              have hcel : 0 < 1 → ∃ ad, (some ⟨w5.heap.size, 0, none⟩ : Option Addr) = some ad ∧ ∀ j x, ([.slice xa xm xc] : List Value)[j]? = some x → (w5.alloc (.cells #[.slice xa xm xc] 34)).cell? (ad.add j) = some x := fun _ => ⟨_, rfl, fun j x hx => by rw [Addr.add_lit, Nat.zero_add]; exact hnb.c j x hx⟩
              have hn7b : n7 ≤ 120 := by have := hL1.out.n.2; have := hn7.out; omega
              replace hok := Lib.hid hok
              clear hin hk5 hS5 hW5 bx5 hBb b0 b1 b2 b3 hcm
              go_upto_region 17 with (at_builtin; refine By.wpList_append_src rfl _ _ 45 (by rfl) w0.heap.size 34 j0 _ 1 24 Try.underlying45 hj0 hy0 hy1 hy2 (by rfl) (by omega) _ _ _ (by rfl) hown _ 1 1 [.slice xa xm xc] (by rfl) rfl hcel (by intro x hx; simp at hx; rcases hx with rfl; rfl) (by unfold maxLen; omega) (by omega) hus ?_; intro v7 w7 hown7 hgrow7 hor7; have hfm7 := hown7.form (by omega); obtain ⟨g7, cc7, rfl, _, _⟩ := hfm7; clear hcel hown hnb c3)
              have hW7 := hW6.out.inp (ins' := ins ++ [⟨xa, xm, xc, xd⟩]) (by
                rw [List.length_append, List.length_singleton, ← hn7.out, show ivC (ins ++ [⟨xa, xm, xc, xd⟩]) = ivC ins ++ [.slice xa xm xc] from by simp [ivC]]
                exact hown7) hgrow7 hor7
              have hLA7 : RowKit.Hid (LA I w0 w7 (k + 1) tk (.slice (some ⟨g7, 0, none⟩) (n7 + 1) cc7) (.slice a9 n9 c9) (.slice a8 n8 c8) (inG I xd G) (ins ++ [⟨xa, xm, xc, xd⟩]) out vs _) := Lib.hid
                ⟨hW7, hL1.out.i.in_ ⟨xa, xm, xc, xd⟩ hok.out (by
                  obtain ⟨k', e1, e2, _⟩ := flow_ok hok.out.2.1
                  show dK I xd < I.N
                  unfold dK
                  rw [e1, Int.toNat_natCast]
                  exact e2), fun iv hiv => (by
                  rcases List.mem_append.1 hiv with z | z
                  · exact hL1.out.x iv z
                  · rw [List.mem_singleton] at z; subst z; exact ⟨hby.out, hm2.out⟩), ⟨by have := hL1.out.n.1; show G.n + 1 ≤ k + 1; omega, by have := hL1.out.n.2; rw [List.length_append, List.length_singleton]; omega⟩, fun i hi => by
                  have h1 := hL1.out.t i hi
                  have h2 : (k : Int) * 1000000 ≤ ((k + 1 : Nat) : Int) * 1000000 := by omega
                  exact Int.le_trans h1 h2⟩
              clear hown7 hgrow7 hor7 hW7 hW6
              go_wp2_with fail
              go_meet
              case rel => exact ⟨_, _, _, _, _, _, _, _, _, rfl, rfl, rfl, Lib.hid ⟨_, _, _, _, _, hLA7.out⟩⟩
            · have hW5 := hL1.out.l.call hk5 hS5 hm.out
              rw [← ht'] at hW5
              have hLA5 : RowKit.Hid (LA I w0 w5 (k + 1) tk (.slice a7 n7 c7) (.slice a9 n9 c9) (.slice a8 n8 c8) G' ins out vs kd) := Lib.hid
                ⟨hW5, hL1.out.i.same hQ' hc', hL1.out.x, ⟨by have := hL1.out.n.1; omega, by have := hL1.out.n.2; omega⟩, fun i hi => by
                  rw [ht']
                  have h1 := hL1.out.t i hi
                  have h2 : (k : Int) * 1000000 ≤ ((k + 1 : Nat) : Int) * 1000000 := by omega
                  exact Int.le_trans h1 h2⟩
              have hxb2 : (x == 0) = false := by simpa using hx
              clear hin hk5 hS5 hW5 b0 b1 b2 b3 hno hQ' ht' hl' hc' hn' hx
              go_wp2_with fail
              go_meet
              case rel => exact ⟨_, _, _, _, _, _, _, _, _, rfl, rfl, rfl, Lib.hid ⟨_, _, _, _, _, hLA5.out⟩⟩
          · by_cases hk1 : kk = 1
            · subst hk1
              obtain ⟨L, hS, hm⟩ := hL1.out.l.s
              have hfi := fill_c tt nn hS
              replace hS := Lib.hid hS
              replace hm := Lib.hid hm
              have bxh := Lib.hid bx
              go_wp2_with fail
              refine hfi.mono ?_
              rintro e w5 ⟨rfl, hS5, hk5⟩
              have hW5 := hL1.out.l.call hk5 hS5 hm.out
              have bx5 := hk5.blk bxh.out (fun z => by have := hnsl.out xb z; omega)
              clear hfi hk5 hS5 b0 b1 b2 b3
              by_cases hok : fillOk tt nn
              · rw [if_pos hok]
                obtain ⟨tn, rfl⟩ : ∃ tn : Nat, tt = (tn : Int) := ⟨tt.toNat, by have := hok.1.1; omega⟩
                have ht1 : 1 ≤ tn ∧ tn ≤ 16 := ⟨by have := hok.1.1; omega, by have := hok.1.2; omega⟩
                have hnn0 : 0 ≤ nn ∧ nn ≤ 1000000 := hok.2
                have c1 := bx5.c 1 _ rfl
                have c2 := bx5.c 2 _ rfl
                have ctk := hW5.t.c tn _ (tokC_at G.tok tn (by omega))
                have ftk := hW5.t.f tn
                have htb := hL1.out.t tn (by omega)
                obtain ⟨tv, htv⟩ : ∃ y, RowKit.Hid (G.tok tn = y) := ⟨_, Lib.hid rfl⟩
                rw [htv.out] at ctk htb
                have htv0 : 0 ≤ tv := by
                  obtain ⟨_, _, _, _, hSS⟩ := hS.out
                  rw [← htv.out]
                  exact (hSS.tk tn (by omega)).1
                have hkb : (k : Int) * 1000000 ≤ 120000000 := by omega
                obtain ⟨hnn0, hnn1⟩ := hnn0
                have hwr : IntKind.i64.wrap (tv + nn) = tv + nn := IntWalk.i64_in _ (by omega)
                have z1 : ¬ (tn : Int) < 1 := by omega
                have z2 : ¬ (16 : Int) < (tn : Int) := by omega
                have z3 : (tn : Int) < 17 := by omega
                have hG2 : RowKit.Hid ((fillG (tn : Int) nn G).tok = Sh.up G.tok tn (tv + nn)) := Lib.hid (by
                  unfold fillG
                  rw [if_pos hok, Int.toNat_natCast]
                  show Sh.up G.tok tn (min (G.tok tn + nn) 1099511627776) = _
                  rw [htv.out, show min (tv + nn) 1099511627776 = tv + nn by omega])
                have hG3 : RowKit.Hid ((fillG (tn : Int) nn G).Q = G.Q ∧ (fillG (tn : Int) nn G).came = G.came ∧ (fillG (tn : Int) nn G).n = G.n) := Lib.hid (by unfold fillG; rw [if_pos hok]; exact ⟨rfl, rfl, rfl⟩)
                replace hW5 := Lib.hid hW5
                clear bx5 hok
                go_upto_region 23 with fail
                refine wp_region_noPanic ?_
                refine Stg.wp_region_L [8] (Bs.SB w5) (by kernel_rfl) (fun _ => (Below.refl _ _).drew) (fun hHeld => ?_)
                refine Stg.wpAnyL_start (n' := 9) (l' := #[false, false, false, false, false, false, false, false, false]) (by kernel_rfl) (by kernel_rfl) ?_
                refine Stg.wpAnyL_free (i := 0) (v := ?_) 0 rfl (by kernel_rfl) (by kernel_rfl) (by kernel_rfl) (by kernel_rfl) (by kernel_rfl) (fun _ _ _ h => h) (Or.inl ⟨by kernel_rfl, ?_⟩) (by assumption) ?_
                rotate_left
                · intro u _
                  try simp only [List.getElem_toArray, List.getElem_cons_succ, List.getElem_cons_zero]
                  go_simp
                  try with_reducible rfl
                try simp only [Act.put, List.setIfInBounds_toArray, List.set_cons_zero, List.set_cons_succ]
                refine Stg.wpAnyL_take (i := 1) (v := ?_) [2, 3, 6, 7, 8] 0 rfl (by kernel_rfl) (by kernel_rfl) (by kernel_rfl) (by kernel_rfl) (by kernel_rfl) (fun _ _ _ h => h) (Or.inl ⟨by kernel_rfl, ?_⟩) (by assumption) ?_
                rotate_left
                · intro u hSu
                  skip
                  have sB := hSu rfl
                  have y0 := cellB sB c1
                  have y1 := cellB sB c2
                  have y2 := cellB sB ctk
                  try simp only [List.getElem_toArray, List.getElem_cons_succ, List.getElem_cons_zero]
                  go_simp
                  try with_reducible rfl
                try simp only [Act.put, List.setIfInBounds_toArray, List.set_cons_zero, List.set_cons_succ]
                refine Stg.wpAnyL_free (i := 2) (v := ?_) 0 rfl (by kernel_rfl) (by kernel_rfl) (by kernel_rfl) (by kernel_rfl) (by kernel_rfl) (fun _ _ _ h => h) (Or.inl ⟨by kernel_rfl, ?_⟩) (by assumption) ?_
                rotate_left
                · intro u _
                  try simp only [List.getElem_toArray, List.getElem_cons_succ, List.getElem_cons_zero]
                  go_simp
                  try with_reducible rfl
                try simp only [Act.put, List.setIfInBounds_toArray, List.set_cons_zero, List.set_cons_succ]
                refine Stg.wpAnyL_start (n' := 6) (l' := #[true, true, true, false, false, false, false, false, false]) (by kernel_rfl) (by kernel_rfl) ?_
                refine Stg.wpAnyL_take (i := 3) (v := ?_) [6, 7, 8] 0 rfl (by kernel_rfl) (by kernel_rfl) (by kernel_rfl) (by kernel_rfl) (by kernel_rfl) (fun _ _ _ h => h) (Or.inl ⟨by kernel_rfl, ?_⟩) (by assumption) ?_
                rotate_left
                · intro u hSu
                  skip
                  have sB := hSu rfl
                  have y0 := cellB sB c1
                  have y1 := cellB sB c2
                  have y2 := cellB sB ctk
                  try simp only [List.getElem_toArray, List.getElem_cons_succ, List.getElem_cons_zero]
                  go_simp
                  try with_reducible rfl
                try simp only [Act.put, List.setIfInBounds_toArray, List.set_cons_zero, List.set_cons_succ]
                refine Stg.wpAnyL_free (i := 4) (v := ?_) 0 rfl (by kernel_rfl) (by kernel_rfl) (by kernel_rfl) (by kernel_rfl) (by kernel_rfl) (fun _ _ _ h => h) (Or.inl ⟨by kernel_rfl, ?_⟩) (by assumption) ?_
                rotate_left
                · intro u _
                  try simp only [List.getElem_toArray, List.getElem_cons_succ, List.getElem_cons_zero]
                  go_simp
                  try with_reducible rfl
                try simp only [Act.put, List.setIfInBounds_toArray, List.set_cons_zero, List.set_cons_succ]
                refine Stg.wpAnyL_take (i := 5) (v := ?_) [6, 7, 8] 0 rfl (by kernel_rfl) (by kernel_rfl) (by kernel_rfl) (by kernel_rfl) (by kernel_rfl) (fun _ _ _ h => h) (Or.inl ⟨by kernel_rfl, ?_⟩) (by assumption) ?_
                rotate_left
                · intro u hSu
                  skip
                  have sB := hSu rfl
                  have y0 := cellB sB c1
                  have y1 := cellB sB c2
                  have y2 := cellB sB ctk
                  try simp only [List.getElem_toArray, List.getElem_cons_succ, List.getElem_cons_zero]
                  go_simp
                  try with_reducible rfl
                try simp only [Act.put, List.setIfInBounds_toArray, List.set_cons_zero, List.set_cons_succ]
                refine Stg.wpAnyL_start (n' := 3) (l' := #[true, true, true, true, true, true, false, false, false]) (by kernel_rfl) (by kernel_rfl) ?_
                refine Stg.wpAnyL_free (i := 6) (v := ?_) 0 rfl (by kernel_rfl) (by kernel_rfl) (by kernel_rfl) (by kernel_rfl) (by kernel_rfl) (fun _ _ _ h => h) (Or.inl ⟨by kernel_rfl, ?_⟩) (by assumption) ?_
                rotate_left
                · intro u _
                  try simp only [List.getElem_toArray, List.getElem_cons_succ, List.getElem_cons_zero]
                  go_simp
                  try with_reducible rfl
                try simp only [Act.put, List.setIfInBounds_toArray, List.set_cons_zero, List.set_cons_succ]
                refine Stg.wpAnyL_free (i := 7) (v := ?_) 0 rfl (by kernel_rfl) (by kernel_rfl) (by kernel_rfl) (by kernel_rfl) (by kernel_rfl) (fun _ _ _ h => h) (Or.inl ⟨by kernel_rfl, ?_⟩) (by assumption) ?_
                rotate_left
                · intro u _
                  try simp only [List.getElem_toArray, List.getElem_cons_succ, List.getElem_cons_zero]
                  go_simp
                  try with_reducible rfl
                try simp only [Act.put, List.setIfInBounds_toArray, List.set_cons_zero, List.set_cons_succ]
                refine Stg.wpAnyL_one (i := 8) 1 rfl (by kernel_rfl) (by kernel_rfl) (fun K hK => ?_)
                have zk := cellB (hHeld rfl) ctk
                have zf := ((hHeld rfl).frozen (p := ⟨tk, tn, none⟩) (World.block_lt_of_cell? _ _ ctk)).trans ftk
                try simp only [List.getElem_toArray, List.getElem_cons_succ, List.getElem_cons_zero]
                go_simp
                refine hK.out _ _ ?_ (fun hHeld1 => ?_)
                · exact fun h => absurd h (by decide)
                clear hK K
                try simp only [Act.put, List.setIfInBounds_toArray, List.set_cons_zero, List.set_cons_succ]
                refine Stg.wpAnyL_done (by kernel_rfl) ?_ _
                try simp only [List.getElem_toArray, List.getElem_cons_succ, List.getElem_cons_zero]
                try simp only [Act.put, List.setIfInBounds_toArray, List.set_cons_zero, List.set_cons_succ]
                refine NoPanic.normal ?_
                clear zk zf
                try rw [hwr]
                have hW6 := (hW5.out.tokS tn (by omega) (tv + nn)).below (Below.refl _ _).drew
                rw [← hG2.out] at hW6
                have hLA6 : RowKit.Hid (LA I w0 ((w5.setCell ⟨tk, tn, none⟩ (.int .i64 (tv + nn))).drew) (k + 1) tk (.slice a7 n7 c7) (.slice a9 n9 c9) (.slice a8 n8 c8) (fillG (tn : Int) nn G) ins out vs kd) := Lib.hid
                  ⟨hW6, hL1.out.i.same hG3.out.1 hG3.out.2.1, hL1.out.x, ⟨by have := hL1.out.n.1; have := hG3.out.2.2; omega, by have := hL1.out.n.2; omega⟩, fun i hi => by
                    rw [hG2.out]
                    have h1 := hL1.out.t i hi
                    have h2 : ((k + 1 : Nat) : Int) * 1000000 = (k : Int) * 1000000 + 1000000 := by omega
                    rw [h2]
                    unfold Sh.up
                    split
                    · omega
                    · omega⟩
                clear hHeld hwr hW6 hW5 c1 c2 ctk ftk
                go_wp2_with fail
                go_meet
                case rel => exact ⟨_, _, _, _, _, _, _, _, _, rfl, rfl, rfl, Lib.hid ⟨_, _, _, _, _, hLA6.out⟩⟩
              · rw [if_neg hok]
                have hfg : fillG tt nn G = G := by unfold fillG; rw [if_neg hok]
                rw [hfg] at hW5
                have hLA5 : RowKit.Hid (LA I w0 w5 (k + 1) tk (.slice a7 n7 c7) (.slice a9 n9 c9) (.slice a8 n8 c8) G ins out vs kd) := Lib.hid ((⟨hW5, hL1.out.i, hL1.out.x, hL1.out.n, hL1.out.t⟩ : LA I w0 w5 k tk (.slice a7 n7 c7) (.slice a9 n9 c9) (.slice a8 n8 c8) G ins out vs kd).up (Nat.le_succ k))
                clear hfg hW5 bx5 hok
                go_wp2_with fail
                go_meet
                case rel => exact ⟨_, _, _, _, _, _, _, _, _, rfl, rfl, rfl, Lib.hid ⟨_, _, _, _, _, hLA5.out⟩⟩
            · by_cases hk2 : kk = 2
              · subst hk2
                obtain ⟨L, hS, hm⟩ := hL1.out.l.s
                have hdr := drop_c tt hS
                replace hS := Lib.hid hS
                replace hm := Lib.hid hm
                have bxh := Lib.hid bx
                go_wp2_with fail
                refine hdr.mono ?_
                rintro e w5 ⟨rfl, hS5, hk5⟩
                have hW5 := hL1.out.l.call hk5 hS5 hm.out
                have bx5 := hk5.blk bxh.out (fun z => by have := hnsl.out xb z; omega)
                clear hdr hk5 hS5 b0 b1 b2 b3
                by_cases hok : okT tt
                · rw [if_pos hok, if_pos hok]
                  obtain ⟨tn, rfl⟩ : ∃ tn : Nat, tt = (tn : Int) := ⟨tt.toNat, by have := hok.1; omega⟩
                  have ht1 : 1 ≤ tn ∧ tn ≤ 16 := ⟨by have := hok.1; omega, by have := hok.2; omega⟩
                  rw [Int.toNat_natCast]
                  have c1 := bx5.c 1 _ rfl
                  have ctk := hW5.t.c tn _ (tokC_at G.tok tn (by omega))
                  have ftk := hW5.t.f tn
                  obtain ⟨tv, htv⟩ : ∃ y, RowKit.Hid (G.tok tn = y) := ⟨_, Lib.hid rfl⟩
                  rw [htv.out] at ctk
                  rw [htv.out]
                  have z1 : ¬ (tn : Int) < 1 := by omega
                  have z2 : ¬ (16 : Int) < (tn : Int) := by omega
                  have z3 : (tn : Int) < 17 := by omega
                  have hG2 : RowKit.Hid ((dropG (tn : Int) G).tok = Sh.up G.tok tn 0) := Lib.hid (by
                    unfold dropG
                    rw [if_pos hok, Int.toNat_natCast])
                  have hG3 : RowKit.Hid ((dropG (tn : Int) G).Q = G.Q ∧ (dropG (tn : Int) G).came = G.came ∧ (dropG (tn : Int) G).n = G.n) := Lib.hid (by unfold dropG; rw [if_pos hok]; exact ⟨rfl, rfl, rfl⟩)
                  have hW6 := hW5.tokS tn (by omega) 0
                  rw [← hG2.out] at hW6
                  have hLA6 : RowKit.Hid (LA I w0 (w5.setCell ⟨tk, tn, none⟩ (.int .i64 0)) (k + 1) tk (.slice a7 n7 c7) (.slice a9 n9 c9) (.slice a8 n8 c8) (dropG (tn : Int) G) ins out vs kd) := Lib.hid
                    ⟨hW6, hL1.out.i.same hG3.out.1 hG3.out.2.1, hL1.out.x, ⟨by have := hL1.out.n.1; have := hG3.out.2.2; omega, by have := hL1.out.n.2; omega⟩, fun i hi => by
                      rw [hG2.out]
                      have h1 := hL1.out.t i hi
                      have h2 : ((k + 1 : Nat) : Int) * 1000000 = (k : Int) * 1000000 + 1000000 := by omega
                      rw [h2]
                      unfold Sh.up
                      split
                      · omega
                      · omega⟩
                  clear hW6 hW5 bx5 hok
                  go_wp2_with fail
                  go_meet
                  case rel => exact ⟨_, _, _, _, _, _, _, _, _, rfl, rfl, rfl, Lib.hid ⟨_, _, _, _, _, hLA6.out⟩⟩
                · rw [if_neg hok, if_neg hok]
                  have hfg : dropG tt G = G := by unfold dropG; rw [if_neg hok]
                  rw [hfg] at hW5
                  have hLA5 : RowKit.Hid (LA I w0 w5 (k + 1) tk (.slice a7 n7 c7) (.slice a9 n9 c9) (.slice a8 n8 c8) G ins out vs kd) := Lib.hid ((⟨hW5, hL1.out.i, hL1.out.x, hL1.out.n, hL1.out.t⟩ : LA I w0 w5 k tk (.slice a7 n7 c7) (.slice a9 n9 c9) (.slice a8 n8 c8) G ins out vs kd).up (Nat.le_succ k))
                  clear hfg hW5 bx5 hok
                  go_wp2_with fail
                  go_meet
                  case rel => exact ⟨_, _, _, _, _, _, _, _, _, rfl, rfl, rfl, Lib.hid ⟨_, _, _, _, _, hLA5.out⟩⟩
              · by_cases hk3 : kk = 3
                · subst hk3
                  obtain ⟨L, hS, hm⟩ := hL1.out.l.s
                  have hpu := pump_c nn hS (by have := hL1.out.n.1; omega) hwn.out
                  have hpk : RowKit.Hid ((∀ i, i < I.N → ∀ p, p ∈ G.Q i → PtOk (I.T i) p) ∧ (∀ i, i < I.N → 1 ≤ I.T i ∧ I.T i ≤ 16) ∧ (∀ i, i < 17 → 0 ≤ G.tok i ∧ G.tok i ≤ 1099511627776)) := Lib.hid (by
                    obtain ⟨_, _, _, _, hSS⟩ := hS
                    exact ⟨hSS.pk, hSS.ten, hSS.tk⟩)
                  replace hS := Lib.hid hS
                  replace hm := Lib.hid hm
                  go_wp2_with fail
                  refine hpu.mono ?_
                  rintro e w5 ⟨o2, Ga, Gb, la2, lb2, ca2, cb2, vs2, hr, hdn, rfl, hS5, hO5, hk5⟩
                  obtain ⟨n2, hn2⟩ : ∃ y, RowKit.Hid (o2.length = y) := ⟨_, Lib.hid rfl⟩
                  rw [hn2.out]
                  have hltU := hL1.out.l.lt
                  have hW5 := Lib.hid ((hL1.out.l.call hk5 hS5 hm.out).relab (n := U.heap.size) hltU)
                  have hUge : xb < U.heap.size := bx.l
                  replace hr := Lib.hid hr
                  replace hdn := Lib.hid hdn
                  replace hO5 := Lib.hid hO5
                  replace hltU := Lib.hid hltU
                  have hWI := hL1.out.i.same (G' := startG nn G) rfl rfl
                  have hn2b : (n2 : Int) ≤ 120 := by
                    have a := hWI.run hr.out
                    have c := a.c
                    have d := a.n
                    have e := hL1.out.n.2
                    rw [List.length_append, hn2.out] at c
                    omega
                  have hdt := Lib.hid (done_tok hdn.out)
                  replace hWI := Lib.hid hWI
                  clear hpu hk5 hS5 b0 b1 b2 b3
                  go_wp2_with fail
                  go_loopw [19, 133] (fun _ s133 wr => ∃ (j : Nat) (tokj : Nat → Int), s133 = .int .i64 (j : Nat) ∧ j ≤ n2 ∧ RowKit.Hid (∃ Gj, Run I (startG nn G) (o2.take j) Gj ∧ tokj = Gj.tok) ∧ RowKit.Hid (LW I w0 wr Gb tokj tk (.slice a7 n7 c7) (.slice a9 n9 c9) (.slice a8 n8 c8) ins out out vs (fun c => if U.heap.size ≤ c then 5 else kd c)) ∧ RowKit.Hid (By.KF [tk] w5 wr)) (fun _ s133 _ => n2 - (intOf s133).toNat)
                  case atStart => exact ⟨0, G.tok, rfl, Nat.zero_le _, Lib.hid ⟨startG nn G, .nil _, rfl⟩, hW5, Lib.hid (By.KF.refl _ _)⟩
                  case round =>
                    obtain ⟨j, tokj, rfl, hj, hrj, hWj, hKj⟩ := hrel
                    obtain ⟨W2, rfl⟩ : ∃ W : World, W = wr := ⟨_, rfl⟩
                    have jz : (j : Int) ≤ (n2 : Int) := by omega
                    have htkU : tk < U.heap.size := hltU.out _ (.inl rfl)
                    have hOj := hO5.out.kf hKj.out (fun q hq => by simp at hq; omega)
                    by_cases hjl : j < n2
                    · have jz1 : (j : Int) < (n2 : Int) := by omega
                      obtain ⟨⟨kq, p⟩, hkp⟩ : ∃ kp, o2[j]? = some kp := ⟨_, List.getElem?_eq_getElem (by rw [hn2.out]; exact hjl)⟩
                      obtain ⟨Gj, l, r1, st, r2⟩ := run_take hr.out j (kq, p) hkp
                      obtain ⟨Gj', r1', ht'⟩ := hrj.out
                      obtain rfl := run_det r1 r1'
                      have hpo := run_pk r1 hpk.out.1 kq st.2.2.2.1 p (by rw [st.2.2.2.2.1]; exact List.mem_cons_self ..)
                      have hten := hpk.out.2.1 kq st.2.2.2.1
                      have hfit := st.2.2.2.2.2
                      have htj0 := run_tok r1
                      obtain ⟨tn, htn⟩ : ∃ tn : Nat, RowKit.Hid (p.t = (tn : Int)) := ⟨p.t.toNat, Lib.hid (by have := hpo.1; omega)⟩
                      have htn1 : 1 ≤ tn ∧ tn ≤ 16 := by have := hpo.1; have := htn.out; omega
                      have htk2 : RowKit.Hid ((I.T kq).toNat = tn) := Lib.hid (by have := hpo.1; have := htn.out; omega)
                      obtain ⟨m, hm'⟩ : ∃ m, RowKit.Hid (p.d.length = m) := ⟨_, Lib.hid rfl⟩
                      have hmm : (m : Int) ≤ 1492 := by have := hpo.2.2.2.1; have := hm'.out; omega
                      have hle2 : 0 < n2 := by omega
                      obtain ⟨ad, rfl⟩ : ∃ ad, la2 = some ad := by
                        cases la2 with
                        | none => have := (hOj.s.nil rfl).1; rw [hn2.out] at this; omega
                        | some ad => exact ⟨ad, rfl⟩
                      obtain ⟨b6, o6, rfl, _, hc6, _, _⟩ := hOj.s.row ad rfl
                      have x2 := hc6 _ _ (sentC_at o2 j (kq, p) hkp 2 (by omega))
                      have x4 := hc6 _ _ (sentC_at o2 j (kq, p) hkp 4 (by omega))
                      simp only [htn.out, hm'.out] at x2 x4
                      rw [← Nat.add_assoc] at x2 x4
                      rw [ht'] at hWj
                      have ctk := hWj.out.t.c tn _ (tokC_at Gj.tok tn (by omega))
                      have ftk := hWj.out.t.f tn
                      obtain ⟨tv, htv⟩ : ∃ y, RowKit.Hid (Gj.tok tn = y) := ⟨_, Lib.hid rfl⟩
                      rw [htk2.out, hm'.out, htv.out] at hfit
                      rw [htv.out] at ctk
                      have htvb : tv ≤ 1099511627776 := by
                        have a := htj0 tn
                        have b := (hpk.out.2.2 tn (by omega)).2
                        have c : (startG nn G).tok tn = G.tok tn := rfl
                        have := htv.out
                        omega
                      have hwr : IntKind.i64.wrap (tv - (8 + (m : Int))) = tv - (8 + (m : Int)) := IntWalk.i64_in _ (by omega)
                      have z1 : ¬ (tn : Int) < 1 := by omega
                      have z2 : ¬ (16 : Int) < (tn : Int) := by omega
                      have z3 : (tn : Int) < 17 := by omega
                      have z4 : ¬ tv < 8 + (m : Int) := by omega
                      have hpop : RowKit.Hid ((popG I Gj kq p l).tok = Sh.up Gj.tok tn (tv - (8 + (m : Int)))) := Lib.hid (by
                        show Sh.up Gj.tok (I.T kq).toNat (Gj.tok (I.T kq).toNat - (8 + (p.d.length : Int))) = _
                        rw [htk2.out, hm'.out, htv.out])
                      have hrj2 : RowKit.Hid (∃ G', Run I (startG nn G) (o2.take (j + 1)) G' ∧ Sh.up Gj.tok tn (tv - (8 + (m : Int))) = G'.tok) := Lib.hid ⟨_, r2, hpop.out.symm⟩
                      clear hc6 r1 r1' r2 st hrj ht' htj0 hpo hten hOj hpop
                      go_upto_region 35 with fail
                      go_big_quiet (fail)
                      have hdr := bDrew (Below.refl W2.heap.size W2) nq
                      have y2 := cellB hdr x2
                      have y4 := cellB hdr x4
                      have ytk := cellB hdr ctk
                      have yf := (hdr.frozen (p := ⟨tk, tn, none⟩) (World.block_lt_of_cell? _ _ ctk)).trans ftk
                      have hWk := Lib.hid (hWj.out.below hdr)
                      have hKk := Lib.hid (hKj.out.trans (By.KF.of hdr))
                      clear x2 x4 ctk ftk hdr hWj hKj
                      generalize W2.drewN nq = W3 at y2 y4 ytk yf hWk hKk ⊢
                      go_upto_region 37 with fail
                      refine wp_region_noPanic ?_
                      refine Stg.wp_region_L [14] (Bs.SB W3) (by kernel_rfl) (fun _ => (Below.refl _ _).drew) (fun hHeld => ?_)
                      refine Stg.wpAnyL_start (n' := 15) (l' := #[false, false, false, false, false, false, false, false, false, false, false, false, false, false, false]) (by kernel_rfl) (by kernel_rfl) ?_
                      refine Stg.wpAnyL_free (i := 0) (v := ?_) 0 rfl (by kernel_rfl) (by kernel_rfl) (by kernel_rfl) (by kernel_rfl) (by kernel_rfl) (fun _ _ _ h => h) (Or.inl ⟨by kernel_rfl, ?_⟩) (by assumption) ?_
                      rotate_left
                      · intro u _
                        try simp only [List.getElem_toArray, List.getElem_cons_succ, List.getElem_cons_zero]
                        go_simp
                        try with_reducible rfl
                      try simp only [Act.put, List.setIfInBounds_toArray, List.set_cons_zero, List.set_cons_succ]
                      refine Stg.wpAnyL_free (i := 1) (v := ?_) 0 rfl (by kernel_rfl) (by kernel_rfl) (by kernel_rfl) (by kernel_rfl) (by kernel_rfl) (fun _ _ _ h => h) (Or.inl ⟨by kernel_rfl, ?_⟩) (by assumption) ?_
                      rotate_left
                      · intro u _
                        try simp only [List.getElem_toArray, List.getElem_cons_succ, List.getElem_cons_zero]
                        go_simp
                        try with_reducible rfl
                      try simp only [Act.put, List.setIfInBounds_toArray, List.set_cons_zero, List.set_cons_succ]
                      refine Stg.wpAnyL_free (i := 2) (v := ?_) 0 rfl (by kernel_rfl) (by kernel_rfl) (by kernel_rfl) (by kernel_rfl) (by kernel_rfl) (fun _ _ _ h => h) (Or.inl ⟨by kernel_rfl, ?_⟩) (by assumption) ?_
                      rotate_left
                      · intro u _
                        try simp only [List.getElem_toArray, List.getElem_cons_succ, List.getElem_cons_zero]
                        go_simp
                        try with_reducible rfl
                      try simp only [Act.put, List.setIfInBounds_toArray, List.set_cons_zero, List.set_cons_succ]
                      refine Stg.wpAnyL_start (n' := 12) (l' := #[true, true, true, false, false, false, false, false, false, false, false, false, false, false, false]) (by kernel_rfl) (by kernel_rfl) ?_
                      refine Stg.wpAnyL_free (i := 3) (v := ?_) 0 rfl (by kernel_rfl) (by kernel_rfl) (by kernel_rfl) (by kernel_rfl) (by kernel_rfl) (fun _ _ _ h => h) (Or.inl ⟨by kernel_rfl, ?_⟩) (by assumption) ?_
                      rotate_left
                      · intro u _
                        try simp only [List.getElem_toArray, List.getElem_cons_succ, List.getElem_cons_zero]
                        go_simp
                        try with_reducible rfl
                      try simp only [Act.put, List.setIfInBounds_toArray, List.set_cons_zero, List.set_cons_succ]
                      refine Stg.wpAnyL_take (i := 4) (v := ?_) [5, 6, 12, 13, 14] 0 rfl (by kernel_rfl) (by kernel_rfl) (by kernel_rfl) (by kernel_rfl) (by kernel_rfl) (fun _ _ _ h => h) (Or.inl ⟨by kernel_rfl, ?_⟩) (by assumption) ?_
                      rotate_left
                      · intro u hSu
                        skip
                        have sB := hSu rfl
                        have y0 := cellB sB y2
                        have y1 := cellB sB y4
                        have y2 := cellB sB ytk
                        try simp only [List.getElem_toArray, List.getElem_cons_succ, List.getElem_cons_zero]
                        go_simp
                        try with_reducible rfl
                      try simp only [Act.put, List.setIfInBounds_toArray, List.set_cons_zero, List.set_cons_succ]
                      refine Stg.wpAnyL_free (i := 5) (v := ?_) 0 rfl (by kernel_rfl) (by kernel_rfl) (by kernel_rfl) (by kernel_rfl) (by kernel_rfl) (fun _ _ _ h => h) (Or.inl ⟨by kernel_rfl, ?_⟩) (by assumption) ?_
                      rotate_left
                      · intro u _
                        try simp only [List.getElem_toArray, List.getElem_cons_succ, List.getElem_cons_zero]
                        go_simp
                        try with_reducible rfl
                      try simp only [Act.put, List.setIfInBounds_toArray, List.set_cons_zero, List.set_cons_succ]
                      refine Stg.wpAnyL_start (n' := 9) (l' := #[true, true, true, true, true, true, false, false, false, false, false, false, false, false, false]) (by kernel_rfl) (by kernel_rfl) ?_
                      refine Stg.wpAnyL_take (i := 6) (v := ?_) [12, 13, 14] 0 rfl (by kernel_rfl) (by kernel_rfl) (by kernel_rfl) (by kernel_rfl) (by kernel_rfl) (fun _ _ _ h => h) (Or.inl ⟨by kernel_rfl, ?_⟩) (by assumption) ?_
                      rotate_left
                      · intro u hSu
                        skip
                        have sB := hSu rfl
                        have y0 := cellB sB y2
                        have y1 := cellB sB y4
                        have y2 := cellB sB ytk
                        try simp only [List.getElem_toArray, List.getElem_cons_succ, List.getElem_cons_zero]
                        go_simp
                        try with_reducible rfl
                      try simp only [Act.put, List.setIfInBounds_toArray, List.set_cons_zero, List.set_cons_succ]
                      refine Stg.wpAnyL_free (i := 7) (v := ?_) 0 rfl (by kernel_rfl) (by kernel_rfl) (by kernel_rfl) (by kernel_rfl) (by kernel_rfl) (fun _ _ _ h => h) (Or.inl ⟨by kernel_rfl, ?_⟩) (by assumption) ?_
                      rotate_left
                      · intro u _
                        try simp only [List.getElem_toArray, List.getElem_cons_succ, List.getElem_cons_zero]
                        go_simp
                        try with_reducible rfl
                      try simp only [Act.put, List.setIfInBounds_toArray, List.set_cons_zero, List.set_cons_succ]
                      refine Stg.wpAnyL_free (i := 8) (v := ?_) 0 rfl (by kernel_rfl) (by kernel_rfl) (by kernel_rfl) (by kernel_rfl) (by kernel_rfl) (fun _ _ _ h => h) (Or.inl ⟨by kernel_rfl, ?_⟩) (by assumption) ?_
                      rotate_left
                      · intro u _
                        try simp only [List.getElem_toArray, List.getElem_cons_succ, List.getElem_cons_zero]
                        go_simp
                        try with_reducible rfl
                      try simp only [Act.put, List.setIfInBounds_toArray, List.set_cons_zero, List.set_cons_succ]
                      refine Stg.wpAnyL_start (n' := 6) (l' := #[true, true, true, true, true, true, true, true, true, false, false, false, false, false, false]) (by kernel_rfl) (by kernel_rfl) ?_
                      refine Stg.wpAnyL_free (i := 9) (v := ?_) 0 rfl (by kernel_rfl) (by kernel_rfl) (by kernel_rfl) (by kernel_rfl) (by kernel_rfl) (fun _ _ _ h => h) (Or.inl ⟨by kernel_rfl, ?_⟩) (by assumption) ?_
                      rotate_left
                      · intro u _
                        try simp only [List.getElem_toArray, List.getElem_cons_succ, List.getElem_cons_zero]
                        go_simp
                        try with_reducible rfl
                      try simp only [Act.put, List.setIfInBounds_toArray, List.set_cons_zero, List.set_cons_succ]
                      refine Stg.wpAnyL_free (i := 10) (v := ?_) 0 rfl (by kernel_rfl) (by kernel_rfl) (by kernel_rfl) (by kernel_rfl) (by kernel_rfl) (fun _ _ _ h => h) (Or.inl ⟨by kernel_rfl, ?_⟩) (by assumption) ?_
                      rotate_left
                      · intro u _
                        try simp only [List.getElem_toArray, List.getElem_cons_succ, List.getElem_cons_zero]
                        go_simp
                        try with_reducible rfl
                      try simp only [Act.put, List.setIfInBounds_toArray, List.set_cons_zero, List.set_cons_succ]
                      refine Stg.wpAnyL_take (i := 11) (v := ?_) [12, 13, 14] 0 rfl (by kernel_rfl) (by kernel_rfl) (by kernel_rfl) (by kernel_rfl) (by kernel_rfl) (fun _ _ _ h => h) (Or.inl ⟨by kernel_rfl, ?_⟩) (by assumption) ?_
                      rotate_left
                      · intro u hSu
                        skip
                        have sB := hSu rfl
                        have y0 := cellB sB y2
                        have y1 := cellB sB y4
                        have y2 := cellB sB ytk
                        try simp only [List.getElem_toArray, List.getElem_cons_succ, List.getElem_cons_zero]
                        go_simp
                        try with_reducible rfl
                      try simp only [Act.put, List.setIfInBounds_toArray, List.set_cons_zero, List.set_cons_succ]
                      refine Stg.wpAnyL_start (n' := 3) (l' := #[true, true, true, true, true, true, true, true, true, true, true, true, false, false, false]) (by kernel_rfl) (by kernel_rfl) ?_
                      refine Stg.wpAnyL_free (i := 12) (v := ?_) 0 rfl (by kernel_rfl) (by kernel_rfl) (by kernel_rfl) (by kernel_rfl) (by kernel_rfl) (fun _ _ _ h => h) (Or.inl ⟨by kernel_rfl, ?_⟩) (by assumption) ?_
                      rotate_left
                      · intro u _
                        try simp only [List.getElem_toArray, List.getElem_cons_succ, List.getElem_cons_zero]
                        go_simp
                        try with_reducible rfl
                      try simp only [Act.put, List.setIfInBounds_toArray, List.set_cons_zero, List.set_cons_succ]
                      refine Stg.wpAnyL_free (i := 13) (v := ?_) 0 rfl (by kernel_rfl) (by kernel_rfl) (by kernel_rfl) (by kernel_rfl) (by kernel_rfl) (fun _ _ _ h => h) (Or.inl ⟨by kernel_rfl, ?_⟩) (by assumption) ?_
                      rotate_left
                      · intro u _
                        try simp only [List.getElem_toArray, List.getElem_cons_succ, List.getElem_cons_zero]
                        go_simp
                        try with_reducible rfl
                      try simp only [Act.put, List.setIfInBounds_toArray, List.set_cons_zero, List.set_cons_succ]
                      refine Stg.wpAnyL_one (i := 14) 1 rfl (by kernel_rfl) (by kernel_rfl) (fun K hK => ?_)
                      have zk := cellB (hHeld rfl) ytk
                      have zf := ((hHeld rfl).frozen (p := ⟨tk, tn, none⟩) (World.block_lt_of_cell? _ _ ytk)).trans yf
                      try simp only [List.getElem_toArray, List.getElem_cons_succ, List.getElem_cons_zero]
                      go_simp
                      refine hK.out _ _ ?_ (fun hHeld1 => ?_)
                      · exact fun h => absurd h (by decide)
                      clear hK K
                      try simp only [Act.put, List.setIfInBounds_toArray, List.set_cons_zero, List.set_cons_succ]
                      refine Stg.wpAnyL_done (by kernel_rfl) ?_ _
                      try simp only [List.getElem_toArray, List.getElem_cons_succ, List.getElem_cons_zero]
                      try simp only [Act.put, List.setIfInBounds_toArray, List.set_cons_zero, List.set_cons_succ]
                      refine NoPanic.normal ?_
                      clear zk zf
                      try rw [hwr]
                      have hWn := Lib.hid ((hWk.out.tokS tn (by omega) (tv - (8 + (m : Int)))).below (Below.refl _ _).drew)
                      have hKn := Lib.hid ((hKk.out.set (.inl (by simp)) (.int .i64 (tv - (8 + (m : Int))))).drew (w := W3.setCell ⟨tk, tn, none⟩ (.int .i64 (tv - (8 + (m : Int))))))
                      clear hHeld y2 y4 ytk yf hwr
                      go_wp2_with fail
                      go_roundw
                      case rel => exact ⟨j + 1, _, by go_num, by omega, hrj2, hWn, hKn⟩
                      case measure => simp [intOf]; omega
                    · obtain rfl : j = n2 := by omega
                      have htk5 : tokj = Gb.tok := by
                        obtain ⟨Gj, rj, htj⟩ := hrj.out
                        rw [List.take_of_length_le (by rw [hn2.out]; exact Nat.le_refl _)] at rj
                        obtain rfl := run_det rj hr.out
                        rw [htj, hdt.out.1]
                      rw [htk5] at hWj
                      have hout9 : n9 + n8 + n7 ≤ 360 := by
                        have a := hL1.out.i.c
                        have b := hL1.out.i.n
                        have c := hL1.out.n.2
                        have := hn7.out
                        have := hn8.out
                        have := hn9.out
                        omega
                      obtain ⟨i0, hi0, hz0, hz1, hz2⟩ := info_parts info_sentS
                      obtain ⟨j0, hj0, hy0, hy1, hy2⟩ := info_parts info_bys
                      have hown := hWj.out.o
                      rw [← hn9.out] at hown
                      have hus := hWj.out.bel.size
                      have hlen6 : (sentC o2).length = j * 6 := by rw [sentC_len, hn2.out]
                      have hsrc := RowG.src hOj.s
                      rw [hn2.out] at hsrc
                      have hjn : j ≤ 120 := by omega
                      replace hOj := Lib.hid hOj
                      clear hrj hKj
                      go_upto_region 40 with (at_builtin; refine By.wpList_append_src rfl _ _ 31 (by rfl) w0.heap.size 55 i0 _ 6 48 Try.underlying31 hi0 hz0 hz1 hz2 (by rfl) (by omega) _ _ _ (by rfl) hown la2 j ca2 (sentC o2) (by rfl) hlen6 hsrc (sentC_one o2) (by unfold maxLen; omega) (by omega) hus ?_; intro v7 w7 hown7 hgrow7 hor7; have hsl7 := own_slice hown7; obtain ⟨a9', c9', rfl⟩ := hsl7)
                      have hW7 := Lib.hid (hWj.out.outp (oo' := out ++ o2) (by
                        rw [List.length_append, ← hn9.out, hn2.out, sentC_app]
                        exact hown7) hgrow7 hor7)
                      have k7 := By.KF.grown1 hgrow7
                      have hvoU : ∀ q, q ∈ (Value.slice a9 n9 c9).ownBlock.toList → q < U.heap.size := fun q hq => hltU.out q (.inr (.inr (.inl (mem_or hq))))
                      have hO7 := hOj.out.kf k7 hvoU
                      have hyy : ∀ (j : Nat) (kp : Nat × Pt), o2[j]? = some kp → ∃ g c : Nat, vs2[j]? = some (Value.slice (some ⟨g, 0, none⟩) (8 + kp.2.d.length) c) ∧ Byt w7 (some ⟨g, 0, none⟩) (8 + kp.2.d.length) c (bldD kp.2) ∧ g ∉ I.ns ∧ lab (fun c => if U.heap.size ≤ c then 5 else kd c) W2.heap.size 3 g = 5 := fun j kp hkp => by
                        obtain ⟨g, c, e1, e2, e3, _⟩ := hOj.out.y j kp hkp
                        have hgl := byt_lt e2 (by omega)
                        refine ⟨g, c, e1, k7.byt e2 (fun _ ad e z => by cases e; have := hvoU _ z; simp only at this; omega), fun z => by have := hnsl.out g z; omega, ?_⟩
                        rw [lab_ne (by omega)]
                        exact if_pos e3
                      have hown8 := hW7.out.b
                      rw [← hn8.out] at hown8
                      have hus7 := hW7.out.bel.size
                      have hlen1 : vs2.length = j * 1 := by have := hO7.b.len; rw [hn2.out] at this; exact this
                      have hsrc2 := RowG.src hO7.b
                      rw [hn2.out] at hsrc2
                      have hone2 := hO7.one
                      replace hyy := Lib.hid hyy
                      clear hown hsrc hown7 hgrow7 hor7 k7 hO7 hWj hOj
                      go_wp2_with (at_builtin; refine By.wpList_append_src rfl _ _ 45 (by rfl) w0.heap.size 34 j0 _ 1 24 Try.underlying45 hj0 hy0 hy1 hy2 (by rfl) (by omega) _ _ _ (by rfl) hown8 lb2 j cb2 vs2 (by rfl) hlen1 hsrc2 hone2 (by unfold maxLen; omega) (by omega) hus7 ?_; intro v8 w8 hown9 hgrow9 hor9; have hsl8 := own_slice hown9; obtain ⟨a8', c8', rfl⟩ := hsl8; replace hgrow9 := Lib.hid hgrow9; replace hor9 := Lib.hid hor9)
                      have hW8 := hW7.out.byp (o2 := o2) (vs2 := vs2) (by
                        rw [List.length_append, ← hn8.out, hn2.out]
                        exact hown9) hgrow9.out hor9.out hyy.out
                      have hLA8 : RowKit.Hid (LA I w0 w8 (k + 1) tk (.slice a7 n7 c7) (.slice a9' (n9 + j) c9') (.slice a8' (n8 + j) c8') Gb ins (out ++ o2) (vs ++ vs2) _) := Lib.hid
                        ⟨hW8, (hWI.out.run hr.out).same hdt.out.2.1 hdt.out.2.2.1, hL1.out.x, ⟨by have := hL1.out.n.1; have a := hdt.out.2.2.2; have b := (run_n hr.out).1; have c : (startG nn G).n = G.n + 1 := rfl; omega, by have := hL1.out.n.2; omega⟩, fun i hi => by
                          rw [hdt.out.1]
                          have h0 := run_tok hr.out i
                          have h1 := hL1.out.t i hi
                          have h2 : (k : Int) * 1000000 ≤ ((k + 1 : Nat) : Int) * 1000000 := by omega
                          have h3 : (startG nn G).tok i = G.tok i := rfl
                          omega⟩
                      clear hown9 hgrow9 hor9 hW8 hW7 hown8 hsrc2 hone2 hyy
                      go_meet
                      case rel => exact ⟨_, _, _, _, _, _, _, _, _, rfl, rfl, rfl, Lib.hid ⟨_, _, _, _, _, hLA8.out⟩⟩
                · have q0 : (kk == 0) = false := by simpa using hk0
                  have q1 : (kk == 1) = false := by simpa using hk1
                  have q2 : (kk == 2) = false := by simpa using hk2
                  have q3 : (kk == 3) = false := by simpa using hk3
                  have hLA5 := Lib.hid (hL1.out.up (Nat.le_succ k))
                  go_wp2_with fail
                  go_meet
                  case rel => exact ⟨_, _, _, _, _, _, _, _, _, rfl, rfl, rfl, Lib.hid ⟨_, _, _, _, _, hLA5.out⟩⟩
        obtain ⟨m7, m8, m9, d7, d8, d9, e7, e8, e9, rfl, rfl, rfl, hLA⟩ := hcut
        obtain ⟨V, rfl⟩ : ∃ u2 : World, u2 = wc := ⟨_, rfl⟩
        clear b0 bx hL1
        go_wp2_with fail
        go_loopw [20] (fun s20 wr => ∃ q : Nat, s20 = .int .i64 (q : Nat) ∧ 1 ≤ q ∧ q ≤ 17 ∧ RowKit.Hid (LAe I w0 wr (k + 1) tk (.slice e7 m7 d7) (.slice e9 m9 d9) (.slice e8 m8 d8))) (fun s20 _ => 17 - (intOf s20).toNat)
        case atStart => exact ⟨1, rfl, Nat.le_refl _, by omega, hLA⟩
        case round =>
          obtain ⟨q, rfl, hq1, hq2, hLq⟩ := hrel
          obtain ⟨W2, rfl⟩ : ∃ W : World, W = wr := ⟨_, rfl⟩
          have q1i : (1 : Int) ≤ (q : Int) := by omega
          have q2i : (q : Int) ≤ 17 := by omega
          by_cases hq : q ≤ 16
          · have hqi : (q : Int) ≤ 16 := by omega
            have hqi2 : (q : Int) < 17 := by omega
            obtain ⟨G2, ins2, out2, vs2, kd2, hL2⟩ := hLq.out
            obtain ⟨L, hS2, _⟩ := hL2.l.s
            have ctk := hL2.l.t.c q _ (tokC_at G2.tok q (by omega))
            obtain ⟨tv, htv⟩ : ∃ y, RowKit.Hid (G2.tok q = y) := ⟨_, Lib.hid rfl⟩
            rw [htv.out] at ctk
            have ht := Lib.hid (fun (u : World) (hu : Below W2.heap.size W2 u) => tokens_c (q : Int) (hS2.bel hu))
            rw [if_pos (show okT (q : Int) from ⟨by omega, by omega⟩), Int.toNat_natCast, htv.out] at ht
            have hL2h := Lib.hid hL2
            clear hL2 hS2
            go_upto_region 44 with fail
            refine wp_region_noPanic ?_
            refine Stg.wp_region_L [] (Bs.SB W2) (by kernel_rfl) (fun _ => (Below.refl _ _).drew) (fun hHeld => ?_)
            refine Stg.wpAnyL_start (n' := 7) (l' := #[false, false, false, false, false, false, false]) (by kernel_rfl) (by kernel_rfl) ?_
            refine Stg.wpAnyL_free (i := 0) (v := ?_) 0 rfl (by kernel_rfl) (by kernel_rfl) (by kernel_rfl) (by kernel_rfl) (by kernel_rfl) (fun _ _ _ h => h) (Or.inl ⟨by kernel_rfl, ?_⟩) (by assumption) ?_
            rotate_left
            · intro u _
              try simp only [List.getElem_toArray, List.getElem_cons_succ, List.getElem_cons_zero]
              go_simp
              try with_reducible rfl
            try simp only [Act.put, List.setIfInBounds_toArray, List.set_cons_zero, List.set_cons_succ]
            refine Stg.wpAnyL_free (i := 1) (v := ?_) 0 rfl (by kernel_rfl) (by kernel_rfl) (by kernel_rfl) (by kernel_rfl) (by kernel_rfl) (fun _ _ _ h => h) (Or.inl ⟨by kernel_rfl, ?_⟩) (by assumption) ?_
            rotate_left
            · intro u _
              try simp only [List.getElem_toArray, List.getElem_cons_succ, List.getElem_cons_zero]
              go_simp
              try with_reducible rfl
            try simp only [Act.put, List.setIfInBounds_toArray, List.set_cons_zero, List.set_cons_succ]
            refine Stg.wpAnyL_free (i := 3) (v := ?_) 0 rfl (by kernel_rfl) (by kernel_rfl) (by kernel_rfl) (by kernel_rfl) (by kernel_rfl) (fun _ _ _ h => h) (Or.inl ⟨by kernel_rfl, ?_⟩) (by assumption) ?_
            rotate_left
            · intro u _
              try simp only [List.getElem_toArray, List.getElem_cons_succ, List.getElem_cons_zero]
              go_simp
              try with_reducible rfl
            try simp only [Act.put, List.setIfInBounds_toArray, List.set_cons_zero, List.set_cons_succ]
            refine Stg.wpAnyL_start (n' := 4) (l' := #[true, true, false, true, false, false, false]) (by kernel_rfl) (by kernel_rfl) ?_
            refine Stg.wpAnyL_free (i := 4) (v := ?_) 0 rfl (by kernel_rfl) (by kernel_rfl) (by kernel_rfl) (by kernel_rfl) (by kernel_rfl) (fun _ _ _ h => h) (Or.inl ⟨by kernel_rfl, ?_⟩) (by assumption) ?_
            rotate_left
            · intro u _
              try simp only [List.getElem_toArray, List.getElem_cons_succ, List.getElem_cons_zero]
              go_simp
              try with_reducible rfl
            try simp only [Act.put, List.setIfInBounds_toArray, List.set_cons_zero, List.set_cons_succ]
            refine Stg.wpAnyL_take (i := 5) (v := ?_) [6] 0 rfl (by kernel_rfl) (by kernel_rfl) (by kernel_rfl) (by kernel_rfl) (by kernel_rfl) (fun _ _ _ h => h) (Or.inl ⟨by kernel_rfl, ?_⟩) (by assumption) ?_
            rotate_left
            · intro u hSu
              skip
              have sB := hSu rfl
              have y0 := cellB sB ctk
              try simp only [List.getElem_toArray, List.getElem_cons_succ, List.getElem_cons_zero]
              go_simp
              try with_reducible rfl
            try simp only [Act.put, List.setIfInBounds_toArray, List.set_cons_zero, List.set_cons_succ]
            refine Stg.wpAnyL_one (i := 2) 0 rfl (by kernel_rfl) (by kernel_rfl) (fun K hK => ?_)
            try simp only [List.getElem_toArray, List.getElem_cons_succ, List.getElem_cons_zero]
            go_simp
            refine (ht.out _ (hHeld rfl)).mono ?_
            rintro e w5 ⟨rfl, hw5⟩
            have hb1 : Below W2.drew.heap.size W2.drew w5 := by rw [hw5]; exact Below.refl _ _
            refine hK.out _ _ ?_ (fun hHeld1 => ?_)
            · exact fun _ => bNext (hHeld rfl) hb1 (Nat.le_refl _)
            clear hK K
            try simp only [Act.put, List.setIfInBounds_toArray, List.set_cons_zero, List.set_cons_succ]
            refine Stg.wpAnyL_start (n' := 1) (l' := #[true, true, true, true, true, true, false]) (by kernel_rfl) (by kernel_rfl) ?_
            refine Stg.wpAnyL_free (i := 6) (v := ?_) 0 rfl (by kernel_rfl) (by kernel_rfl) (by kernel_rfl) (by kernel_rfl) (by kernel_rfl) (fun _ _ _ h => h) (Or.inl ⟨by kernel_rfl, ?_⟩) (by assumption) ?_
            rotate_left
            · intro u _
              try simp only [List.getElem_toArray, List.getElem_cons_succ, List.getElem_cons_zero]
              go_simp
              try with_reducible rfl
            try simp only [Act.put, List.setIfInBounds_toArray, List.set_cons_zero, List.set_cons_succ]
            refine Stg.wpAnyL_done (by kernel_rfl) ?_ _
            try simp only [List.getElem_toArray, List.getElem_cons_succ, List.getElem_cons_zero]
            try simp only [Act.put, List.setIfInBounds_toArray, List.set_cons_zero, List.set_cons_succ]
            refine NoPanic.normal ?_
            have hb5 := hHeld1 rfl
            have hLn := Lib.hid (show LAe I w0 w5 (k + 1) tk (.slice e7 m7 d7) (.slice e9 m9 d9) (.slice e8 m8 d8) from ⟨G2, ins2, out2, vs2, kd2, ⟨hL2h.out.l.below hb5, hL2h.out.i, hL2h.out.x, hL2h.out.n, hL2h.out.t⟩⟩)
            clear hb5 hw5 ht
            clear hHeld hHeld1 hb1 ctk
            have hbb : (tv != tv) = false := by simp
            go_wp2_with fail
            go_roundw
            case rel => exact ⟨q + 1, by go_num, by omega, by omega, hLn⟩
            case measure => simp [intOf]; omega
          · obtain rfl : q = 17 := by omega
            go_wp2_with fail
            go_roundw
            case rel => exact ⟨k + 1, _, _, _, _, _, _, _, _, _, by omega, by go_num, rfl, rfl, rfl, hLq⟩
            case measure => simp [intOf]; omega
      · obtain rfl : k = n := by omega
        obtain ⟨G, ins, out, vs, kd, hL⟩ := hLA.out
        obtain ⟨L, hS, _⟩ := hL.l.s
        obtain ⟨ob, oo, A, Ln, C, A2, L2, C2, hJ⟩ := hL.jat hF.out hIN.out hIT.out (by omega) (by omega)
        have hwh := hL.whole
        have hWc := rwhole_c W (recJ I ins out) a7 af a9 a8 c7 cf c9 c8 fb0 fo0 ob oo A Ln C A2 L2 C2 hJ
        have hcame := hL.i.c
        have hinl := hL.i.n
        have hil := hL.n.2
        have hn7 := own_len hL.l.i
        have hn8 := own_len hL.l.b
        have hn9 := own_len hL.l.o
        rw [show (recJ I ins out).ni = n7 from hn7.symm, show (recJ I ins out).no = n9 from hn9.symm, show (recJ I ins out).nb = n8 from hn8.symm, show (recJ I ins out).N = N from hIN.out] at hWc
        have hBW := hL.l.bel
        have hwt := Lib.hid (fun (t : Int) => waiting_c t hS)
        have hmono : ∀ j, j ≤ N → totQ G.Q j ≤ 120 := fun j hj => by
          have a := totQ_mono (Q := G.Q) (m := j) (n := N) hj
          have : I.N = N := hIN.out
          rw [this] at hcame
          omega
        replace hWc := Lib.hid hWc
        replace hBW := Lib.hid hBW
        replace hmono := Lib.hid hmono
        replace hwh := Lib.hid hwh
        replace hcame := Lib.hid hcame
        replace hinl := Lib.hid hinl
        replace hn7 := Lib.hid hn7
        replace hn9 := Lib.hid hn9
        have hil2 : n7 ≤ 120 ∧ n9 ≤ 120 := by have := hcame.out; have := hinl.out; have := hn7.out; have := hn9.out; omega
        obtain ⟨hil7, hil9⟩ := hil2
        clear hL hS hJ hLA hn8
        go_wp2_with fail
        go_loopw [21, 22, 200] (fun s21 _ s200 wr => ∃ (j x : Nat), s200 = .int .i64 (j : Nat) ∧ j ≤ N ∧ s21 = .int .i64 (x : Nat) ∧ RowKit.Hid (x = totQ G.Q j) ∧ x ≤ 120 ∧ RowKit.Hid (W = wr)) (fun _ _ s200 _ => N - (intOf s200).toNat)
        case atStart => exact ⟨0, 0, rfl, Nat.zero_le _, rfl, Lib.hid rfl, by omega, Lib.hid rfl⟩
        case round =>
          obtain ⟨j, x, rfl, hj, rfl, hx, hxb, hWr⟩ := hrel
          have jz : (j : Int) ≤ (N : Int) := by omega
          have hWr2 := hWr.out
          subst hWr2
          by_cases hjl : j < N
          · have jz1 : (j : Int) < (N : Int) := by omega
            have hw1 := hwt.out (j : Int)
            rw [if_pos (show (0 : Int) ≤ (j : Int) ∧ (j : Int) < (I.N : Int) from ⟨by omega, by have := hIN.out; omega⟩), Int.toNat_natCast] at hw1
            obtain ⟨y, hy⟩ : ∃ y, RowKit.Hid ((G.Q j).length = y) := ⟨_, Lib.hid rfl⟩
            rw [hy.out] at hw1
            have hx2 : RowKit.Hid (x + y = totQ G.Q (j + 1)) := Lib.hid (by unfold totQ; rw [← hx.out, hy.out])
            have hxb2 : x + y ≤ 120 := by rw [hx2.out]; exact hmono.out (j + 1) (by omega)
            go_wp2_with fail
            refine hw1.mono ?_
            rintro e u ⟨rfl, rfl⟩
            go_wp2_with fail
            go_roundw
            case rel => exact ⟨j + 1, x + y, by go_num, by omega, by go_num, hx2, hxb2, by first | exact Lib.hid rfl | exact Lib.hid trivial⟩
            case measure => simp [intOf]; omega
          · obtain rfl : j = N := by omega
            go_wp2_with fail
            refine hWc.out.mono ?_
            rintro e u ⟨(⟨_, rfl⟩ | ⟨hnw, _⟩), hbu⟩
            · have hsum : (x : Int) + (n9 : Int) = (n7 : Int) := by
                have a := hcame.out
                have b := hinl.out
                have : I.N = j := hIN.out
                rw [this] at a
                have := hx.out
                have := hn7.out
                have := hn9.out
                omega
              have hB2 := Lib.hid (hBW.out.trans (hbu.mono hBW.out.size))
              have hwk := wakes27_c u
              clear hbu
              go_wp2_with fail
              refine hwk.mono ?_
              rintro e w' ⟨rfl, hB9⟩
              have hBf := Lib.hid (hB2.out.trans (hB9.mono hB2.out.size))
              clear hB9 hwk
              go_wp2_with fail
              exact bodyPost_ret (v := .bool true) (by simp [results, Try.results4, go_sem]) rfl ⟨rfl, hBf.out⟩
            · exact absurd hwh.out hnw
end Go.Proofs.Ytkefkophlhcbiaa
