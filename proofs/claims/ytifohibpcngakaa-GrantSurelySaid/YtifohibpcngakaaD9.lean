/- What GrantSurely says. -/
import Derived.Test.YtifohibpcngakaaD8
import Derived.Test.YtifohibpcngakaaOpen
import Derived.Deep.CutRange
import Derived.Deep.LoopGhost
namespace Go.Proofs.Ytifohibpcngakaa
open Go.ChangeShapes Go.WideShapes Go.ChangeAt Go.RowKit Go.Maps
set_option linter.unusedVariables false
set_option linter.unusedSimpArgs false
open BigFrame Bs Gr
attribute [local go_sem] Bs.max_fold Bs.min_fold

namespace Gr
def tdI (made : Int) (own : Bool) : Int := min made 200 + (if own then 1 else 0)
def Sta (w : World) (b off : Nat) (f : Nat → Nat → Int) (i : Nat) : Prop :=
  w.cell? ⟨b, off + i * 3, none⟩ = some (.int .i64 (f i 0)) ∧ w.cell? ⟨b, off + i * 3 + 1, none⟩ = some (.int .i64 (f i 1)) ∧ w.cell? ⟨b, off + i * 3 + 2, none⟩ = some (.int .i64 (f i 2))
theorem g_own {G own : Bool} {P Q : Prop} (hG : G = true ↔ (P ∨ (Q ∧ own = true))) (hp : ¬ P) (hq : Q) : G = own := by
  cases G <;> cases own
  · rfl
  · exact absurd (hG.2 (.inr ⟨hq, rfl⟩)) (by decide)
  · rcases hG.1 rfl with h | h
    · exact absurd h hp
    · cases h.2
  · rfl
theorem g_no {G own : Bool} {P Q : Prop} (hG : G = true ↔ (P ∨ (Q ∧ own = true))) (hp : ¬ P) (hq : ¬ Q) : G = false := by
  cases G
  · rfl
  · rcases hG.1 rfl with h | h
    · exact absurd h hp
    · exact absurd h.1 hq
theorem h_own {G own : Bool} {P : Prop} (hG : G = true ↔ (P ∧ own = true)) (hp : P) : G = own := by
  cases G <;> cases own
  · rfl
  · exact absurd (hG.2 ⟨hp, rfl⟩) (by decide)
  · cases (hG.1 rfl).2
  · rfl
theorem h_no {G own : Bool} {P : Prop} (hG : G = true ↔ (P ∧ own = true)) (hp : ¬ P) : G = false := by
  cases G
  · rfl
  · exact absurd (hG.1 rfl).1 hp
end Gr

set_option maxRecDepth 100000 in
set_option maxHeartbeats 40000000 in
theorem grantSurely_some (w : World) (ti r : Int) (f : Nat → Nat → Int) (p1 : Option Addr) (N c1 : Nat) (ask made : Int) (own : Bool) (hN : N ≤ 100) (hr : 0 ≤ r ∧ r ≤ 200) (ht : 1 ≤ ti ∧ ti ≤ 1099511627776) (ham : ask ≤ made) (ho : -9223372036854775808 ≤ made)
    (hf : 0 < N → ∃ b off, p1 = some ⟨b, off, none⟩ ∧ b < w.heap.size ∧ ∀ i, i < N → Sta w b off f i) :
    Calls Try.prog 5 #[.int .i64 ti, .int .i64 r, .slice p1 N c1, .int .i64 ask, .int .i64 made, .bool own] w fun e w' => e = .returned (.bool true) ∧ Below w.heap.size w w' := by
  have hNi : (N : Int) ≤ 100 := by omega
  obtain ⟨r0, r1⟩ := hr
  obtain ⟨t0, t1⟩ := ht
  replace hf := Lib.hid hf
  obtain ⟨OV, hOV⟩ : ∃ OV, RowKit.Hid (Ck.over ti r = OV) := ⟨_, Lib.hid rfl⟩
  have hov := over_any ti r ⟨t0, t1⟩ ⟨r0, r1⟩
  rw [hOV.out] at hov
  replace hov := Lib.hid hov
  obtain ⟨TD, hTD⟩ : ∃ TD, tdI made own = TD := ⟨_, rfl⟩
  have td1 : own = true → TD = min made 200 + 1 := fun e => by rw [← hTD, e]; rfl
  have td2 : own = false → TD = min made 200 := fun e => by rw [← hTD, e]; unfold tdI; simp
  replace hTD := Lib.hid hTD
  replace td1 := Lib.hid td1
  replace td2 := Lib.hid td2
  go_enter Try.func5, Try.ntmps5
  go_wp2_with fail
  refine (new_ok r _ r0 r1).mono ?_
  rintro e w1 ⟨rfl, hA, hBa⟩
  go_wp2_with fail
  refine (new_ok r _ r0 r1).mono ?_
  rintro e w2 ⟨rfl, hB, hBb⟩
  have hA2 := hA.below hBb
  have hB2 := bNext hBa hBb (Nat.le_refl _)
  have n1 := hA.lt
  have n2 := hB.lt
  have n3 := hBb.size
  have ha1 := (Below.refl w2.heap.size w2).alloc (Nat.le_refl _) (.cells #[.int .i64 7, .int .i64 0, .int .i64 0, .int .i64 0, .int .i64 0, .int .i64 0, .int .i64 0] 38)
  have ha2 := ha1.alloc (by simp) (.cells #[.int .i64 0, .int .i64 0, .int .i64 0, .slice none 0 0, .slice (some ⟨w2.heap.size, 0, none⟩) 1 1, .slice none 0 0, .slice none 0 0] 44)
  have hl : Blk ((w2.alloc (.cells #[.int .i64 7, .int .i64 0, .int .i64 0, .int .i64 0, .int .i64 0, .int .i64 0, .int .i64 0] 38)).alloc (.cells #[.int .i64 0, .int .i64 0, .int .i64 0, .slice none 0 0, .slice (some ⟨w2.heap.size, 0, none⟩) 1 1, .slice none 0 0, .slice none 0 0] 44)) w2.heap.size L7 := (blk_new w2 L7 38).bel ((Below.refl _ _).alloc (Nat.le_refl _) (.cells #[.int .i64 0, .int .i64 0, .int .i64 0, .slice none 0 0, .slice (some ⟨w2.heap.size, 0, none⟩) 1 1, .slice none 0 0, .slice none 0 0] 44))
  have hs : Blk ((w2.alloc (.cells #[.int .i64 7, .int .i64 0, .int .i64 0, .int .i64 0, .int .i64 0, .int .i64 0, .int .i64 0] 38)).alloc (.cells #[.int .i64 0, .int .i64 0, .int .i64 0, .slice none 0 0, .slice (some ⟨w2.heap.size, 0, none⟩) 1 1, .slice none 0 0, .slice none 0 0] 44)) (w2.heap.size + 1) (S7 w2.heap.size) := by
    have q := blk_new (w2.alloc (.cells #[.int .i64 7, .int .i64 0, .int .i64 0, .int .i64 0, .int .i64 0, .int .i64 0, .int .i64 0] 38)) (S7 w2.heap.size) 44
    rw [World.size_alloc] at q
    exact q
  have hA3 := hA2.below ha2
  have hB3 := hB.below ha2
  have hB4 := bNext hB2 ha2 (Nat.le_refl _)
  have h0 : Sv w [w.heap.size, w1.heap.size, w2.heap.size, w2.heap.size + 1] w.heap.size OV r ask made TD own w.heap.size w1.heap.size w2.heap.size (w2.heap.size + 1) 0 0 (.pointer none) 0 0 0 0 0 ((w2.alloc (.cells #[.int .i64 7, .int .i64 0, .int .i64 0, .int .i64 0, .int .i64 0, .int .i64 0, .int .i64 0] 38)).alloc (.cells #[.int .i64 0, .int .i64 0, .int .i64 0, .slice none 0 0, .slice (some ⟨w2.heap.size, 0, none⟩) 1 1, .slice none 0 0, .slice none 0 0] 44)) :=
    ⟨Kp.of hB4, hA3, hB3, hl, hs, inv_zero r0 r1, inv_zero r0 r1, Int.le_refl _, Int.le_refl _, Int.le_refl _, Int.le_refl _, fun _ => rfl, fun q1 q2 => by omega, .inl ⟨rfl, fun _ => rfl, fun _ h => h⟩, by simp, by omega, mm_lst hB4.size (by
      intro x hx
      have z1 := hl.l
      have z2 := hs.l
      simp only [List.mem_cons, List.not_mem_nil, or_false] at hx
      omega)⟩
  have hsz0 := Lib.hid hB4.size
  replace h0 := Lib.hid h0
  clear hA hBa hB hBb hA2 hB2 ha1 ha2 hl hs hA3 hB3 hB4 n1 n2 n3
  go_upto_if 65 with fail
  go_cut [20] from 66 to 67 (fun s20 wx => s20 = .int .i64 TD ∧ w2 = wx)
  case first =>
    have hmm : min made 200 ≤ 200 := by omega
    have hmn : -9223372036854775808 ≤ min made 200 := by omega
    cases own with
    | true =>
      have e := td1.out rfl
      replace e := Lib.hid e
      go_wp2_with fail
      go_meet
      case rel => exact ⟨by rw [e.out], rfl⟩
    | false =>
      have e := td2.out rfl
      replace e := Lib.hid e
      go_wp2_with fail
      go_meet
      case rel => exact ⟨by rw [e.out], rfl⟩
  obtain ⟨rfl, rfl⟩ := hcut
  go_upto_region 10 with fail
  generalize (w2.alloc (.cells #[.int .i64 7, .int .i64 0, .int .i64 0, .int .i64 0, .int .i64 0, .int .i64 0, .int .i64 0] 38)).alloc (.cells #[.int .i64 0, .int .i64 0, .int .i64 0, .slice none 0 0, .slice (some ⟨w2.heap.size, 0, none⟩) 1 1, .slice none 0 0, .slice none 0 0] 44) = W0 at h0 hsz0 ⊢
  generalize w2.heap.size + 1 = sb at h0 ⊢
  generalize w2.heap.size = lb at h0 ⊢
  generalize w1.heap.size = cb at h0 ⊢
  obtain ⟨B, hBw⟩ : ∃ B, RowKit.Hid (w.heap.size = B) := ⟨_, Lib.hid rfl⟩
  obtain ⟨ca, hca⟩ : ∃ ca, RowKit.Hid (w.heap.size = ca) := ⟨_, Lib.hid rfl⟩
  have h1 : Sv w [ca, cb, lb, sb] B OV r ask made TD own ca cb lb sb 0 0 (.pointer none) 0 0 0 0 0 W0 := by
    have q := h0.out
    rw [hBw.out] at q
    have e : B = ca := hBw.out.symm.trans hca.out
    subst e
    exact q
  rw [hca.out]
  replace h1 := Lib.hid h1
  clear h0
  go_wp2_with fail
  go_loopg [17, 18, 19, 22, 23, 24, 25, 26, 27, 73] N (fun gg s17 s18 s19 _ _ _ _ _ _ s73 wr => ∃ (i : Nat) (dv : Value) (sent read t ma mb : Int), dv = s17 ∧ s18 = .int .i64 sent ∧ s19 = .int .i64 read ∧ s73 = .int .i64 (i : Nat) ∧ i ≤ N ∧ N - i ≤ gg ∧ Aside (Sv w [ca, cb, lb, sb] B OV r ask made TD own ca cb lb sb (i : Nat) (i : Nat) dv sent read t ma mb wr))
  case atStart => exact ⟨0, _, 0, 0, 0, 0, 0, rfl, rfl, rfl, rfl, Nat.zero_le _, by omega, h1.out⟩
  case round =>
    obtain ⟨i, dv, sent, read, t, ma, mb, rfl, rfl, rfl, rfl, hi, hgg, hSa⟩ := hrel
    have hS := hSa.out
    have ii : (i : Int) ≤ (N : Int) := by omega
    clear h1 hSa
    by_cases hlt : i < N
    · have ii1 : (i : Int) < (N : Int) := by omega
      obtain ⟨b, off, rfl, hb, hc⟩ := hf.out (by omega)
      obtain ⟨c0, c1', c2'⟩ := hc i hlt
      have hbl : Below w.heap.size w wr := hS.k.bel (fun i hi => .inl (by rw [← hBw.out]; exact hi)) (Nat.le_refl _)
      have x0 := (hbl.cell (p := ⟨b, off + i * 3, none⟩) hb).trans c0
      have x1 := (hbl.cell (p := ⟨b, off + i * 3 + 1, none⟩) hb).trans c1'
      have x2 := (hbl.cell (p := ⟨b, off + i * 3 + 2, none⟩) hb).trans c2'
      obtain ⟨f0, hf0⟩ : ∃ x, f i 0 = x := ⟨_, rfl⟩
      obtain ⟨f1, hf1⟩ : ∃ x, f i 1 = x := ⟨_, rfl⟩
      obtain ⟨f2, hf2⟩ : ∃ x, f i 2 = x := ⟨_, rfl⟩
      rw [hf0] at x0
      rw [hf1] at x1
      rw [hf2] at x2
      clear c0 c1' c2' hc hbl hf0 hf1 hf2
      have ha := (Below.refl wr.heap.size wr).alloc (Nat.le_refl _) (.cells #[.int .i64 f0, .int .i64 f1, .int .i64 f2] 55)
      have xb_ := blk_new wr [.int .i64 f0, .int .i64 f1, .int .i64 f2] 55
      have hS2 := hS.bel ha
      have hlw := hS.w
      replace hlw := Lib.hid hlw
      replace hS2 := Lib.hid hS2
      have hDlt := Lib.hid (show ∀ (d bm n : Nat) (EL NO : Int) (T : Int → Option Int), DK (mm B [ca, cb, lb, sb]) wr d bm n OV EL NO T → d < wr.heap.size ∧ bm < wr.heap.size from fun _ _ _ _ _ _ h => ⟨h.b.l, h.t.lt⟩)
      have hDk := Lib.hid (show ∀ (d bm n : Nat) (EL NO : Int) (T : Int → Option Int), DK (mm B [ca, cb, lb, sb]) (wr.alloc (.cells #[.int .i64 f0, .int .i64 f1, .int .i64 f2] 55)) d bm n OV EL NO T → True from fun _ _ _ _ _ _ _ => trivial)
      have hdsk := Lib.hid hS.d
      clear hS ha hDk
      go_upto_region 13 with fail
      clear x0 x1 x2
      have hS3 : Sv w [ca, cb, lb, sb, wr.heap.size] B OV r ask made TD own ca cb lb sb (i : Nat) (i : Nat) dv sent read t ma mb (wr.alloc (.cells #[.int .i64 f0, .int .i64 f1, .int .i64 f2] 55)) := by
        have hq := hS2.out
        have nm : ∀ x, x < wr.heap.size → ¬ mm B [ca, cb, lb, sb] x → ¬ mm B [ca, cb, lb, sb, wr.heap.size] x := fun x hx hn h => hn (h.elim .inl (fun h => by
          simp only [List.mem_cons, List.not_mem_nil, or_false] at h
          refine .inr ?_
          simp only [List.mem_cons, List.not_mem_nil, or_false]
          omega))
        have hsz := xb_.l
        refine ⟨hq.k, hq.a, hq.b, hq.l, hq.s, hq.ia, hq.ib, hq.s0, hq.s1, hq.r0, hq.r1, hq.z, hq.g, ?_, by simp, hq.ne, mm_lst (by have := hlw.out; have := hq.k.size; have := hBw.out; omega) (by
          intro x hx
          simp only [List.mem_cons, List.not_mem_nil, or_false] at hx
          have z1 := hq.a.lt
          have z2 := hq.b.lt
          have z3 := hq.l.l
          have z4 := hq.s.l
          rcases hx with rfl | rfl | rfl | rfl | rfl <;> omega)⟩
        rcases hdsk.out with h | ⟨d, bm, n, EL, NO, T, e, hi, h, r⟩
        · exact .inl h
        · have h2 := h.bel ((Below.refl _ _).alloc (Nat.le_refl _) (.cells #[.int .i64 f0, .int .i64 f1, .int .i64 f2] 55))
          refine .inr ⟨d, bm, n, EL, NO, T, e, hi, h2.re (nm d h.b.l h.md) (nm bm h.t.lt h.mb) (mm_lst (by have := hq.k.size; have := hBw.out; omega) (by
            intro x hx
            simp only [List.mem_cons, List.not_mem_nil, or_false] at hx
            have z1 := hq.a.lt
            have z2 := hq.b.lt
            have z3 := hq.l.l
            have z4 := hq.s.l
            rcases hx with rfl | rfl | rfl | rfl | rfl <;> omega)), r⟩
      replace hS3 := Lib.hid hS3
      have hxn := Lib.hid (show wr.heap.size ≠ ca ∧ wr.heap.size ≠ cb from by have q := hlw.out ca (.inr (by simp)); have q2 := hlw.out cb (.inr (by simp)); omega)
      clear hS2 hdsk hDlt hlw
      generalize wr.alloc (.cells #[.int .i64 f0, .int .i64 f1, .int .i64 f2] 55) = W1 at xb_ hS3 ⊢
      generalize wr.heap.size = xb at xb_ hS3 hxn ⊢
      replace xb_ := Lib.hid xb_
      go_upto_if 80 with fail
      go_cut [18] from 74 to 174 (fun s18 wx => s18 = .int .i64 (if (i : Int) = ask then mb else sent) ∧ W1 = wx)
      case first =>
        have hnow := now_c cb t mb r W1 hS3.out.b
        by_cases hia : (i : Int) = ask
        · have hia2 : ((i : Int) == ask) = true := by simpa using hia
          replace hia := Lib.hid hia
          go_wp2_with fail
          refine hnow.mono ?_
          rintro e w' ⟨rfl, rfl⟩
          go_wp2_with fail
          go_meet
          case rel => exact ⟨by rw [if_pos hia.out], rfl⟩
        · have hia2 : ((i : Int) == ask) = false := by simpa using hia
          replace hia := Lib.hid hia
          go_wp2_with fail
          go_meet
          case rel => exact ⟨by rw [if_neg hia.out], rfl⟩
      obtain ⟨rfl, rfl⟩ := hcut
      obtain ⟨sent2, hs2⟩ : ∃ x, (if (i : Int) = ask then mb else sent) = x := ⟨_, rfl⟩
      rw [hs2]
      have hS4 : Sv w [ca, cb, lb, sb, xb] B OV r ask made TD own ca cb lb sb (i : Nat) (i : Nat) dv sent2 read t ma mb W1 := by
        have q := hS3.out
        have m0 := q.ib.mb
        refine q.ask_ ?_ ?_ (fun g1 g2 => ?_)
        · by_cases e : (i : Int) = ask
          · rw [if_pos e] at hs2; omega
          · rw [if_neg e] at hs2; have := q.s0; omega
        · by_cases e : (i : Int) = ask
          · rw [if_pos e] at hs2; omega
          · rw [if_neg e] at hs2; have := q.s1; omega
        · rw [← hs2, if_neg (by omega)]
      replace hs2 := Lib.hid hs2
      replace hS4 := Lib.hid hS4
      clear hS3
      obtain ⟨read2, hr2⟩ : ∃ x, (if (i : Int) = made then ma else read) = x := ⟨_, rfl⟩
      have hr2b : 0 ≤ read2 ∧ read2 ≤ ma := by
        have q := hS4.out
        have := q.r0; have := q.r1; have := q.ia.mb
        by_cases e : (i : Int) = made
        · rw [if_pos e] at hr2; omega
        · rw [if_neg e] at hr2; omega
      have hg2 : 0 ≤ made → made < ((i : Int) + 1) → ∃ vt vmb, Gr.Str t ma vt read2 r ∧ Gr.Str t mb vt vmb r ∧ (0 ≤ ask → sent2 ≤ vmb) := fun q1 q2 => by
        have q := hS4.out
        by_cases e : (i : Int) = made
        · rw [if_pos e] at hr2
          subst hr2
          exact ⟨t, mb, Gr.Str.new q.ia.t0, Gr.Str.new q.ia.t0, fun _ => q.s1⟩
        · rw [if_neg e] at hr2
          subst hr2
          exact q.g q1 (by omega)
      have hmaB := hS4.out.ia.mb
      replace hg2 := Lib.hid hg2
      replace hr2b := Lib.hid hr2b
      go_upto_region 15 with fail
      obtain ⟨G, hG⟩ : ∃ G : Bool, G = true ↔ ((i : Int) = made ∨ ((i : Int) = 0 ∧ own = true)) := ⟨decide ((i : Int) = made ∨ ((i : Int) = 0 ∧ own = true)), by simp⟩
      go_cut [92] from 74 to 174 (fun s92 wx => s92 = .bool G ∧ W1 = wx)
      case first =>
        by_cases him : (i : Int) = made
        · obtain rfl : G = true := hG.2 (.inl him)
          have b1 : ((i : Int) == made) = true := by simpa using him
          replace him := Lib.hid him
          replace hG := Lib.hid hG
          go_wp2_with fail
          go_meet
          case rel => exact ⟨rfl, rfl⟩
        · have b1 : ((i : Int) == made) = false := by simpa using him
          by_cases hi0 : (i : Int) = 0
          · have b2 : ((i : Int) == 0) = true := by simpa using hi0
            have e : G = own := g_own hG him hi0
            subst e
            replace him := Lib.hid him
            replace hi0 := Lib.hid hi0
            replace hG := Lib.hid hG
            go_wp2_with fail
            go_meet
            case rel => exact ⟨rfl, rfl⟩
          · have b2 : ((i : Int) == 0) = false := by simpa using hi0
            have e : G = false := g_no hG him hi0
            subst e
            replace him := Lib.hid him
            replace hi0 := Lib.hid hi0
            replace hG := Lib.hid hG
            go_wp2_with fail
            go_meet
            case rel => exact ⟨rfl, rfl⟩
      obtain ⟨rfl, rfl⟩ := hcut
      go_upto_if 92 with fail
      go_cut [17, 24, 25] from 74 to 174 (fun s17 s24 s25 wx => ∃ dv2, dv2 = s17 ∧ Aside (Sv w [ca, cb, lb, sb, xb] B OV r ask made TD own ca cb lb sb ((i : Int) + 1) (i : Nat) dv2 sent2 read2 t ma mb wx) ∧ Aside (Blk wx xb [.int .i64 f0, .int .i64 f1, .int .i64 f2]))
      case first =>
        have hnow := now_c ca t ma r W1 hS4.out.a
        have hdn := Lib.hid (dnew_ok (mm B [ca, cb, lb, sb, xb]) W1 ti r ma OV hS4.out.w ⟨t0, t1⟩ ⟨r0, r1⟩ hmaB.1 hov.out)
        replace hnow := Lib.hid hnow
        by_cases hnew : (i : Int) = made ∨ ((i : Int) = 0 ∧ own = true)
        · have hqd := Lib.hid hS4.out.d
          obtain rfl : G = true := hG.2 hnew
          replace hG := Lib.hid hG
          by_cases him : (i : Int) = made
          · replace him := Lib.hid him
            have q := hS4.out
            have hqz := Lib.hid q.z
            rcases hqd.out with ⟨h1, h2, h3⟩ | ⟨d, bm, n, EL, NO, T, e1, h0, h1, h2, h3, h4, h5⟩
            · subst h1
              replace h2 := Lib.hid h2
              replace hnew := Lib.hid hnew
              replace hr2 := Lib.hid hr2
              clear q
              go_wp2_with fail
              refine hnow.out.mono ?_
              rintro e w' ⟨rfl, rfl⟩
              go_wp2_with fail
              refine hdn.out.mono ?_
              rintro e w' ⟨d2, bm2, rfl, hD2, _, _, hb⟩
              have xb5 := xb_.out.bel hb
              have hS5 := hS4.out.desk (dv2 := .pointer (some ⟨d2, 0, none⟩)) (i2 := ((i : Int) + 1)) (ti2 := (i : Nat)) (Kp.of hb) hr2b.out (fun e => by omega) hg2.out (.inr ⟨d2, bm2, 0, ma, ma, _, rfl, by omega, hD2, ⟨hmaB.1, Int.le_refl _, hmaB.1, Int.le_refl _, by omega⟩, fun k c hk => (by cases hk), fun q => ⟨hqz.out (h2.out q), fun _ => rfl, fun q1 q2 => by have := td1.out q; have := h2.out q; omega⟩, fun q => by
                have e : (i : Int) = made := by { rcases hnew.out with e | e; exact e; (rw [q] at e; cases e.2) }
                have e2 := hr2.out
                rw [if_pos e] at e2
                exact ⟨by omega, by omega, e2, rfl⟩⟩)
              replace xb5 := Lib.hid xb5
              replace hS5 := Lib.hid hS5
              clear hD2 hb
              go_wp2_with fail
              go_meet
              case rel => exact ⟨_, rfl, hS5.out, xb5.out⟩
            · subst e1
              have hfalse : own = true ∧ TD = (i : Int) + 1 := by
                cases ho : own with
                | false => have := (h5 ho).2.1; (have := him.out; omega)
                | true => have := td1.out ho; exact ⟨rfl, by (have := him.out; omega)⟩
              obtain ⟨ho1, ho2⟩ := hfalse
              obtain ⟨z1, z2, z3⟩ := h4 ho1
              replace ho1 := Lib.hid ho1
              replace hnew := Lib.hid hnew
              replace hr2 := Lib.hid hr2
              have ho3 := Lib.hid ho2
              replace h1 := Lib.hid h1
              replace h2 := Lib.hid h2
              replace h3 := Lib.hid h3
              replace z1 := Lib.hid z1
              replace z2 := Lib.hid z2
              clear h4 h5 z3 q ho2
              go_wp2_with fail
              refine hnow.out.mono ?_
              rintro e w' ⟨rfl, rfl⟩
              go_wp2_with fail
              refine hdn.out.mono ?_
              rintro e w' ⟨d2, bm2, rfl, hD2, _, _, hb⟩
              have xb5 := xb_.out.bel hb
              have hS5 := hS4.out.desk (dv2 := .pointer (some ⟨d, 0, none⟩)) (i2 := ((i : Int) + 1)) (ti2 := (i : Nat)) (Kp.of hb) hr2b.out (fun e => by omega) hg2.out (.inr ⟨d, bm, n, EL, NO, T, rfl, by omega, h1.out.bel hb, h2.out, h3.out, fun q => ⟨z1.out, z2.out, fun q1 q2 => by have := ho3.out; omega⟩, fun q => by rw [ho1.out] at q; cases q⟩)
              replace xb5 := Lib.hid xb5
              replace hS5 := Lib.hid hS5
              clear hD2 hb
              go_wp2_with fail
              go_meet
              case rel => exact ⟨_, rfl, hS5.out, xb5.out⟩
          · obtain ⟨hi0, hown⟩ : (i : Int) = 0 ∧ own = true := by { rcases hnew with e | e; exact absurd e him; exact e }
            replace hi0 := Lib.hid hi0
            replace him := Lib.hid him
            replace hown := Lib.hid hown
            have q := hS4.out
            have hqz := Lib.hid q.z
            rcases hqd.out with ⟨h1, h2, h3⟩ | ⟨d, bm, n, EL, NO, T, e1, h0, h1, h2, h3, h4, h5⟩
            · subst h1
              replace h2 := Lib.hid h2
              replace hnew := Lib.hid hnew
              replace hr2 := Lib.hid hr2
              clear q
              go_wp2_with fail
              refine hnow.out.mono ?_
              rintro e w' ⟨rfl, rfl⟩
              go_wp2_with fail
              refine hdn.out.mono ?_
              rintro e w' ⟨d2, bm2, rfl, hD2, _, _, hb⟩
              have xb5 := xb_.out.bel hb
              have hS5 := hS4.out.desk (dv2 := .pointer (some ⟨d2, 0, none⟩)) (i2 := ((i : Int) + 1)) (ti2 := (i : Nat)) (Kp.of hb) hr2b.out (fun e => by omega) hg2.out (.inr ⟨d2, bm2, 0, ma, ma, _, rfl, by omega, hD2, ⟨hmaB.1, Int.le_refl _, hmaB.1, Int.le_refl _, by omega⟩, fun k c hk => (by cases hk), fun q => ⟨hqz.out (h2.out q), fun _ => rfl, fun q1 q2 => by have := td1.out q; have := h2.out q; omega⟩, fun q => by
                have e : (i : Int) = made := by { rcases hnew.out with e | e; exact e; (rw [q] at e; cases e.2) }
                have e2 := hr2.out
                rw [if_pos e] at e2
                exact ⟨by omega, by omega, e2, rfl⟩⟩)
              replace xb5 := Lib.hid xb5
              replace hS5 := Lib.hid hS5
              clear hD2 hb
              go_wp2_with fail
              go_meet
              case rel => exact ⟨_, rfl, hS5.out, xb5.out⟩
            · subst e1
              have hfalse : own = true ∧ TD = (i : Int) + 1 := by
                have := hi0.out; omega
              obtain ⟨ho1, ho2⟩ := hfalse
              obtain ⟨z1, z2, z3⟩ := h4 ho1
              replace ho1 := Lib.hid ho1
              replace hnew := Lib.hid hnew
              replace hr2 := Lib.hid hr2
              have ho3 := Lib.hid ho2
              replace h1 := Lib.hid h1
              replace h2 := Lib.hid h2
              replace h3 := Lib.hid h3
              replace z1 := Lib.hid z1
              replace z2 := Lib.hid z2
              clear h4 h5 z3 q ho2
              go_wp2_with fail
              refine hnow.out.mono ?_
              rintro e w' ⟨rfl, rfl⟩
              go_wp2_with fail
              refine hdn.out.mono ?_
              rintro e w' ⟨d2, bm2, rfl, hD2, _, _, hb⟩
              have xb5 := xb_.out.bel hb
              have hS5 := hS4.out.desk (dv2 := .pointer (some ⟨d, 0, none⟩)) (i2 := ((i : Int) + 1)) (ti2 := (i : Nat)) (Kp.of hb) hr2b.out (fun e => by omega) hg2.out (.inr ⟨d, bm, n, EL, NO, T, rfl, by omega, h1.out.bel hb, h2.out, h3.out, fun q => ⟨z1.out, z2.out, fun q1 q2 => by have := ho3.out; omega⟩, fun q => by rw [ho1.out] at q; cases q⟩)
              replace xb5 := Lib.hid xb5
              replace hS5 := Lib.hid hS5
              clear hD2 hb
              go_wp2_with fail
              go_meet
              case rel => exact ⟨_, rfl, hS5.out, xb5.out⟩
        · obtain rfl : G = false := by cases G; rfl; exact absurd (hG.1 rfl) hnew
          replace hG := Lib.hid hG
          have hfin : Dsk [ca, cb, lb, sb, xb] B OV made TD own ((i : Int) + 1) (i : Nat) read2 ma dv W1 := by
            have q := hS4.out.d
            have hnm : ¬ (i : Int) = made := fun e => hnew (.inl e)
            have e : read2 = read := by rw [← hr2, if_neg hnm]
            rw [e]
            rcases q with ⟨h1, h2, h3⟩ | ⟨d, bm, n, EL, NO, T, e1, h0, h1, h2, h3, h4, h5⟩
            · exact .inl ⟨h1, fun q => absurd (.inr ⟨h2 q, q⟩) hnew, fun q q2 => by have := h3 q q2; have : ¬ (i : Int) = made := fun e => hnew (.inl e); omega⟩
            · refine .inr ⟨d, bm, n, EL, NO, T, e1, by omega, h1, h2, h3, h4, fun q => ?_⟩
              obtain ⟨z1, z2, z3, z4⟩ := h5 q
              exact ⟨z1, by omega, z3, z4⟩
          have hS5 := hS4.out.desk (Kp.refl _ _) hr2b.out (fun e => by omega) hg2.out hfin
          replace hS5 := Lib.hid hS5
          replace hnew := Lib.hid hnew
          clear hfin
          go_wp2_with fail
          go_meet
          case rel => exact ⟨_, rfl, hS5.out, xb_.out⟩
      obtain ⟨dv2, rfl, hSa, hxa⟩ := hcut
      have hS5 := Lib.hid hSa.out
      have xb5 := Lib.hid hxa.out
      clear hSa hxa hS4 xb_
      obtain ⟨W5, rfl⟩ : ∃ W5 : World, W5 = wc := ⟨_, rfl⟩
      go_upto_if 108 with fail
      go_cut [19] from 74 to 174 (fun s19 wx => s19 = .int .i64 read2 ∧ W5 = wx)
      case first =>
        have hnow := now_c ca t ma r W5 hS5.out.a
        by_cases him : (i : Int) = made
        · have him2 : ((i : Int) == made) = true := by simpa using him
          have e : ma = read2 := by rw [← hr2, if_pos him]
          replace e := Lib.hid e
          replace him := Lib.hid him
          replace hr2 := Lib.hid hr2
          go_wp2_with fail
          refine hnow.mono ?_
          rintro e w' ⟨rfl, rfl⟩
          go_wp2_with fail
          go_meet
          case rel => exact ⟨by rw [← e.out], rfl⟩
        · have him2 : ((i : Int) == made) = false := by simpa using him
          have e : read = read2 := by rw [← hr2, if_neg him]
          replace e := Lib.hid e
          replace him := Lib.hid him
          replace hr2 := Lib.hid hr2
          go_wp2_with fail
          go_meet
          case rel => exact ⟨by rw [← e.out], rfl⟩
      obtain ⟨rfl, rfl⟩ := hcut
      go_upto_region 23 with fail
      obtain ⟨G2, hG2⟩ : ∃ G : Bool, G = true ↔ ((i : Int) = TD ∧ own = true) := ⟨decide ((i : Int) = TD ∧ own = true), by simp⟩
      go_cut [116] from 74 to 174 (fun s116 wx => s116 = .bool G2 ∧ W5 = wx)
      case first =>
        by_cases him : (i : Int) = TD
        · have b1 : ((i : Int) == TD) = true := by simpa using him
          have e : G2 = own := h_own hG2 him
          subst e
          replace him := Lib.hid him
          replace hG2 := Lib.hid hG2
          go_wp2_with fail
          go_meet
          case rel => exact ⟨rfl, rfl⟩
        · have b1 : ((i : Int) == TD) = false := by simpa using him
          have e : G2 = false := h_no hG2 him
          subst e
          replace him := Lib.hid him
          replace hG2 := Lib.hid hG2
          go_wp2_with fail
          go_meet
          case rel => exact ⟨rfl, rfl⟩
      obtain ⟨rfl, rfl⟩ := hcut
      go_upto_if 116 with fail
      go_cut [24] from 74 to 174 (fun s24 wx => Aside (Sv w [ca, cb, lb, sb, xb] B OV r ask made TD own ca cb lb sb ((i : Int) + 1) ((i : Int) + 1) dv2 sent2 read2 t ma mb wx) ∧ Aside (Blk wx xb [.int .i64 f0, .int .i64 f1, .int .i64 f2]))
      case first =>
        by_cases htl : (i : Int) = TD ∧ own = true
        · obtain ⟨htd, hown⟩ := htl
          obtain rfl : G2 = true := hG2.2 ⟨htd, hown⟩
          replace hG2 := Lib.hid hG2
          have q := hS5.out
          rcases q.d with ⟨h1, h2, h3⟩ | ⟨d, bm, n, EL, NO, T, e1, h0, hD, hq, hT, h4, h5⟩
          · have := h2 hown; omega
          · subst e1
            obtain ⟨z1, z2, z3⟩ := h4 hown
            replace hown := Lib.hid hown
            subst z1
            have z2' := z2 (by omega)
            obtain ⟨hq1, hq2, hq3, hq4, hq5⟩ := hq
            have hma := q.ia.mb
            have hr2c := hr2b.out
            have ss := q.s.drew
            have ll := q.l.drew
            have aa := q.a.below ((Below.refl _ _).drew)
            have hqq := Lib.hid q.q
            have hno := now_c ca t ma r W5.drew aa
            have hov7 := over7 (hD.bel ((Below.refl _ _).drew)) ll q.q.2.2.1 ma (by omega) (by omega) (by omega) (TOk.of hT (by omega))
            replace htd := Lib.hid htd
            replace hno := Lib.hid hno
            replace hov7 := Lib.hid hov7
            replace hT := Lib.hid hT
            replace z3 := Lib.hid z3
            replace z2' := Lib.hid z2'
            clear z2 h4 h5 q aa
            go_upto_region 24 with fail
            refine wp_region_noPanic ?_
            refine Stg.wp_region_L [] (fun _ v => (v.cell? ⟨sb, 0, none⟩ = some (.int .i64 0) ∧ v.cell? ⟨sb, 1, none⟩ = some (.int .i64 0) ∧ v.cell? ⟨sb, 2, none⟩ = some (.int .i64 0) ∧ v.cell? ⟨sb, 3, none⟩ = some (.slice none 0 0) ∧ v.cell? ⟨sb, 4, none⟩ = some (.slice (some ⟨lb, 0, none⟩) 1 1) ∧ v.cell? ⟨sb, 5, none⟩ = some (.slice none 0 0) ∧ v.cell? ⟨sb, 6, none⟩ = some (.slice none 0 0)) ∧ True) (by kernel_rfl) (⟨⟨ss.c 0 _ rfl, ss.c 1 _ rfl, ss.c 2 _ rfl, ss.c 3 _ rfl, ss.c 4 _ rfl, ss.c 5 _ rfl, ss.c 6 _ rfl⟩, trivial⟩) (fun hHeld => ?_)
            refine Stg.wpAnyL_start (n' := 5) (l' := #[false, false, false, false, false]) (by kernel_rfl) (by kernel_rfl) ?_
            refine Stg.wpAnyL_free (i := 0) (v := ?_) 0 rfl (by kernel_rfl) (by kernel_rfl) (by kernel_rfl) (by kernel_rfl) (by kernel_rfl) (fun _ _ _ h => h) (Or.inl ⟨by kernel_rfl, ?_⟩) (by assumption) ?_
            rotate_left
            · intro u _
              try simp only [List.getElem_toArray, List.getElem_cons_succ, List.getElem_cons_zero]
              go_simp
              try with_reducible rfl
            try simp only [Act.put, List.setIfInBounds_toArray, List.set_cons_zero, List.set_cons_succ]
            refine Stg.wpAnyL_take (i := 1) (v := ?_) [4] 0 rfl (by kernel_rfl) (by kernel_rfl) (by kernel_rfl) (by kernel_rfl) (by kernel_rfl) (fun _ _ _ h => h) (Or.inl ⟨by kernel_rfl, ?_⟩) (by assumption) ?_
            rotate_left
            · intro u hSu
              obtain ⟨⟨y0, y1, y2, y3, y4, y5, y6⟩, _⟩ := hSu
              skip
              try simp only [List.getElem_toArray, List.getElem_cons_succ, List.getElem_cons_zero]
              go_simp
              try with_reducible rfl
            try simp only [Act.put, List.setIfInBounds_toArray, List.set_cons_zero, List.set_cons_succ]
            refine Stg.wpAnyL_free (i := 2) (v := ?_) 0 rfl (by kernel_rfl) (by kernel_rfl) (by kernel_rfl) (by kernel_rfl) (by kernel_rfl) (fun _ _ _ h => h) (Or.inl ⟨by kernel_rfl, ?_⟩) (by assumption) ?_
            rotate_left
            · intro u _
              try simp only [List.getElem_toArray, List.getElem_cons_succ, List.getElem_cons_zero]
              go_simp
              try with_reducible rfl
            try simp only [Act.put, List.setIfInBounds_toArray, List.set_cons_zero, List.set_cons_succ]
            refine Stg.wpAnyL_start (n' := 2) (l' := #[true, true, true, false, false]) (by kernel_rfl) (by kernel_rfl) ?_
            refine Stg.wpAnyL_one (i := 3) 0 rfl (by kernel_rfl) (by kernel_rfl) (fun K hK => ?_)
            try simp only [List.getElem_toArray, List.getElem_cons_succ, List.getElem_cons_zero]
            go_simp
            refine hno.out.mono ?_
            rintro e u1 ⟨rfl, rfl⟩
            refine hK.out _ _ ?_ (fun hHeld1 => ?_)
            · exact ⟨⟨ss.c 0 _ rfl, ss.c 1 _ rfl, ss.c 2 _ rfl, ss.c 3 _ rfl, ss.c 4 _ rfl, ss.c 5 _ rfl, ss.c 6 _ rfl⟩, trivial⟩
            clear hK K
            try simp only [Act.put, List.setIfInBounds_toArray, List.set_cons_zero, List.set_cons_succ]
            refine Stg.wpAnyL_one (i := 4) 0 rfl (by kernel_rfl) (by kernel_rfl) (fun K hK => ?_)
            try simp only [List.getElem_toArray, List.getElem_cons_succ, List.getElem_cons_zero]
            go_simp
            refine hov7.out.mono ?_
            rintro e u2 ⟨v1, rfl, _, hD2, k2⟩
            have ss2 := k2.blk ss (.inr hqq.out.2.2.2)
            refine hK.out _ _ ?_ (fun hHeld2 => ?_)
            · exact ⟨⟨ss2.c 0 _ rfl, ss2.c 1 _ rfl, ss2.c 2 _ rfl, ss2.c 3 _ rfl, ss2.c 4 _ rfl, ss2.c 5 _ rfl, ss2.c 6 _ rfl⟩, trivial⟩
            clear hK K
            try simp only [Act.put, List.setIfInBounds_toArray, List.set_cons_zero, List.set_cons_succ]
            refine Stg.wpAnyL_done (by kernel_rfl) ?_ _
            try simp only [List.getElem_toArray, List.getElem_cons_succ, List.getElem_cons_zero]
            try simp only [Act.put, List.setIfInBounds_toArray, List.set_cons_zero, List.set_cons_succ]
            refine NoPanic.normal ?_
            have hmk := Lib.hid (made_ok hD2 7 read2 (by omega) (by omega) (by omega) (by omega))
            have kd := (Kp.refl (mm B [ca, cb, lb, sb, xb]) W5).drew.trans k2
            replace kd := Lib.hid kd
            clear hHeld hHeld1 hHeld2 ss2 k2 hD2 hno hov7
            go_wp2_with fail
            refine hmk.out.mono ?_
            rintro e u3 ⟨rfl, hD3, k3⟩
            have k4 := kd.out.trans k3
            have hS6 := hS5.out.desk (dv2 := .pointer (some ⟨d, 0, none⟩)) (i2 := ((i : Int) + 1)) (ti2 := ((i : Int) + 1)) k4 hr2c (fun e => by omega) hg2.out (.inr ⟨d, bm, n + 1, 0, _, _, rfl, by omega, hD3, ⟨Int.le_refl _, by omega, by omega, by omega, by omega⟩, fun k c hk => by
              rw [madeT_none z2'.out] at hk
              unfold setT at hk
              by_cases e : k = 7
              · rw [if_pos e] at hk
                have : read2 = c := by injection hk
                omega
              · rw [if_neg e] at hk
                exact hT.out k c hk, fun _ => ⟨rfl, fun q => by have := htd.out; omega, fun _ _ => by
                  rw [madeT_none z2'.out]
                  unfold setT
                  rw [if_pos rfl]⟩, fun q => by rw [hown.out] at q; cases q⟩)
            have xb6 := Lib.hid (k4.blk xb5.out (.inr (by simp)))
            replace hS6 := Lib.hid hS6
            clear hmk hD3 k3 k4 kd ss ll
            go_wp2_with fail
            go_meet
            case rel => exact ⟨hS6.out, xb6.out⟩
        · obtain rfl : G2 = false := by cases G2; rfl; exact absurd (hG2.1 rfl) htl
          replace hG2 := Lib.hid hG2
          have hfin : Dsk [ca, cb, lb, sb, xb] B OV made TD own ((i : Int) + 1) ((i : Int) + 1) read2 ma dv2 W5 := by
            rcases hS5.out.d with ⟨h1, h2, h3⟩ | ⟨d, bm, n, EL, NO, T, e1, h0, h1, ⟨g1, g2, g3, g4, g5⟩, h3, h4, h5⟩
            · exact .inl ⟨h1, h2, h3⟩
            · refine .inr ⟨d, bm, n, EL, NO, T, e1, h0, h1, ⟨g1, g2, g3, g4, by omega⟩, h3, fun q => ?_, h5⟩
              obtain ⟨z1, z2, z3⟩ := h4 q
              have hne : ¬ (i : Int) = TD := fun e => htl ⟨e, q⟩
              exact ⟨z1, fun q2 => z2 (by omega), fun q2 q3 => z3 q2 (by omega)⟩
          have hS6 := hS5.out.desk (Kp.refl _ _) hr2b.out (fun e => by omega) hg2.out hfin
          replace hS6 := Lib.hid hS6
          replace htl := Lib.hid htl
          clear hfin
          go_wp2_with fail
          go_meet
          case rel => exact ⟨hS6.out, xb5.out⟩
      obtain ⟨hSa, hxa⟩ := hcut
      have hS6 := Lib.hid hSa.out
      have xb6 := Lib.hid hxa.out
      clear hSa hxa hS5 xb5
      obtain ⟨W6, rfl⟩ : ∃ W6 : World, W6 = wc := ⟨_, rfl⟩
      have y0 := xb6.out.c 0 _ rfl
      have y1 := xb6.out.c 1 _ rfl
      have y2 := xb6.out.c 2 _ rfl
      have hS7 := hS6.out.bel ((Below.refl _ _).drew)
      have xd := xb6.out.drew
      have hst := stepP hS7.a hS7.ia f0 f1
      have hst2 : ∀ u, Only ca W6.drew u → Calls Try.prog 20 #[.pointer (some ⟨cb, 0, none⟩), .int .i64 f0, .int .i64 f2] u (StepP cb t mb r f0 f2 u) := fun u hu => stepP (hS7.b.only hu (Ne.symm hS7.ne.1)) hS7.ib f0 f2
      replace hst := Lib.hid hst
      replace hst2 := Lib.hid hst2
      replace hS7 := Lib.hid hS7
      go_upto_region 27 with fail
      go_cut [26, 27] from 74 to 174 (fun s26 s27 wx => ∃ t2 ma2 mb2 kk : Int, s26 = .int .i64 kk ∧ s27 = .int .i64 kk ∧ Aside (Sv w [ca, cb, lb, sb, xb] B OV r ask made TD own ca cb lb sb ((i : Int) + 1) ((i : Int) + 1) dv2 sent2 read2 t2 ma2 mb2 wx))
      case first =>
        refine wp_region_noPanic ?_
        refine Stg.wp_region_L [] (fun _ v => (v.cell? ⟨xb, 0, none⟩ = some (.int .i64 f0) ∧ v.cell? ⟨xb, 1, none⟩ = some (.int .i64 f1) ∧ v.cell? ⟨xb, 2, none⟩ = some (.int .i64 f2)) ∧ True) (by kernel_rfl) (⟨⟨xd.c 0 _ rfl, xd.c 1 _ rfl, xd.c 2 _ rfl⟩, trivial⟩) (fun hHeld => ?_)
        refine Stg.wpAnyL_start (n' := 14) (l' := #[false, false, false, false, false, false, false, false, false, false, false, false, false, false]) (by kernel_rfl) (by kernel_rfl) ?_
        refine Stg.wpAnyL_free (i := 0) (v := ?_) 0 rfl (by kernel_rfl) (by kernel_rfl) (by kernel_rfl) (by kernel_rfl) (by kernel_rfl) (fun _ _ _ h => h) (Or.inl ⟨by kernel_rfl, ?_⟩) (by assumption) ?_
        rotate_left
        · intro u _
          try simp only [List.getElem_toArray, List.getElem_cons_succ, List.getElem_cons_zero]
          go_simp
          try with_reducible rfl
        try simp only [Act.put, List.setIfInBounds_toArray, List.set_cons_zero, List.set_cons_succ]
        refine Stg.wpAnyL_free (i := 1) (v := ?_) 0 rfl (by kernel_rfl) (by kernel_rfl) (by kernel_rfl) (by kernel_rfl) (by kernel_rfl) (fun _ _ _ h => h) (Or.inl ⟨by kernel_rfl, ?_⟩) (by assumption) ?_
        rotate_left
        · intro u _
          try simp only [List.getElem_toArray, List.getElem_cons_succ, List.getElem_cons_zero]
          go_simp
          try with_reducible rfl
        try simp only [Act.put, List.setIfInBounds_toArray, List.set_cons_zero, List.set_cons_succ]
        refine Stg.wpAnyL_take (i := 2) (v := ?_) [5, 11, 12, 13] 0 rfl (by kernel_rfl) (by kernel_rfl) (by kernel_rfl) (by kernel_rfl) (by kernel_rfl) (fun _ _ _ h => h) (Or.inl ⟨by kernel_rfl, ?_⟩) (by assumption) ?_
        rotate_left
        · intro u hSu
          obtain ⟨⟨y0, y1, y2⟩, _⟩ := hSu
          skip
          try simp only [List.getElem_toArray, List.getElem_cons_succ, List.getElem_cons_zero]
          go_simp
          try with_reducible rfl
        try simp only [Act.put, List.setIfInBounds_toArray, List.set_cons_zero, List.set_cons_succ]
        refine Stg.wpAnyL_start (n' := 11) (l' := #[true, true, true, false, false, false, false, false, false, false, false, false, false, false]) (by kernel_rfl) (by kernel_rfl) ?_
        refine Stg.wpAnyL_free (i := 3) (v := ?_) 0 rfl (by kernel_rfl) (by kernel_rfl) (by kernel_rfl) (by kernel_rfl) (by kernel_rfl) (fun _ _ _ h => h) (Or.inl ⟨by kernel_rfl, ?_⟩) (by assumption) ?_
        rotate_left
        · intro u _
          try simp only [List.getElem_toArray, List.getElem_cons_succ, List.getElem_cons_zero]
          go_simp
          try with_reducible rfl
        try simp only [Act.put, List.setIfInBounds_toArray, List.set_cons_zero, List.set_cons_succ]
        refine Stg.wpAnyL_take (i := 4) (v := ?_) [5, 11, 12, 13] 0 rfl (by kernel_rfl) (by kernel_rfl) (by kernel_rfl) (by kernel_rfl) (by kernel_rfl) (fun _ _ _ h => h) (Or.inl ⟨by kernel_rfl, ?_⟩) (by assumption) ?_
        rotate_left
        · intro u hSu
          obtain ⟨⟨y0, y1, y2⟩, _⟩ := hSu
          skip
          try simp only [List.getElem_toArray, List.getElem_cons_succ, List.getElem_cons_zero]
          go_simp
          try with_reducible rfl
        try simp only [Act.put, List.setIfInBounds_toArray, List.set_cons_zero, List.set_cons_succ]
        refine Stg.wpAnyL_free (i := 6) (v := ?_) 0 rfl (by kernel_rfl) (by kernel_rfl) (by kernel_rfl) (by kernel_rfl) (by kernel_rfl) (fun _ _ _ h => h) (Or.inl ⟨by kernel_rfl, ?_⟩) (by assumption) ?_
        rotate_left
        · intro u _
          try simp only [List.getElem_toArray, List.getElem_cons_succ, List.getElem_cons_zero]
          go_simp
          try with_reducible rfl
        try simp only [Act.put, List.setIfInBounds_toArray, List.set_cons_zero, List.set_cons_succ]
        refine Stg.wpAnyL_start (n' := 8) (l' := #[true, true, true, true, true, false, true, false, false, false, false, false, false, false]) (by kernel_rfl) (by kernel_rfl) ?_
        refine Stg.wpAnyL_free (i := 7) (v := ?_) 0 rfl (by kernel_rfl) (by kernel_rfl) (by kernel_rfl) (by kernel_rfl) (by kernel_rfl) (fun _ _ _ h => h) (Or.inl ⟨by kernel_rfl, ?_⟩) (by assumption) ?_
        rotate_left
        · intro u _
          try simp only [List.getElem_toArray, List.getElem_cons_succ, List.getElem_cons_zero]
          go_simp
          try with_reducible rfl
        try simp only [Act.put, List.setIfInBounds_toArray, List.set_cons_zero, List.set_cons_succ]
        refine Stg.wpAnyL_take (i := 8) (v := ?_) [11, 12, 13] 0 rfl (by kernel_rfl) (by kernel_rfl) (by kernel_rfl) (by kernel_rfl) (by kernel_rfl) (fun _ _ _ h => h) (Or.inl ⟨by kernel_rfl, ?_⟩) (by assumption) ?_
        rotate_left
        · intro u hSu
          obtain ⟨⟨y0, y1, y2⟩, _⟩ := hSu
          skip
          try simp only [List.getElem_toArray, List.getElem_cons_succ, List.getElem_cons_zero]
          go_simp
          try with_reducible rfl
        try simp only [Act.put, List.setIfInBounds_toArray, List.set_cons_zero, List.set_cons_succ]
        refine Stg.wpAnyL_free (i := 9) (v := ?_) 0 rfl (by kernel_rfl) (by kernel_rfl) (by kernel_rfl) (by kernel_rfl) (by kernel_rfl) (fun _ _ _ h => h) (Or.inl ⟨by kernel_rfl, ?_⟩) (by assumption) ?_
        rotate_left
        · intro u _
          try simp only [List.getElem_toArray, List.getElem_cons_succ, List.getElem_cons_zero]
          go_simp
          try with_reducible rfl
        try simp only [Act.put, List.setIfInBounds_toArray, List.set_cons_zero, List.set_cons_succ]
        refine Stg.wpAnyL_start (n' := 5) (l' := #[true, true, true, true, true, false, true, true, true, true, false, false, false, false]) (by kernel_rfl) (by kernel_rfl) ?_
        refine Stg.wpAnyL_take (i := 10) (v := ?_) [11, 12, 13] 0 rfl (by kernel_rfl) (by kernel_rfl) (by kernel_rfl) (by kernel_rfl) (by kernel_rfl) (fun _ _ _ h => h) (Or.inl ⟨by kernel_rfl, ?_⟩) (by assumption) ?_
        rotate_left
        · intro u hSu
          obtain ⟨⟨y0, y1, y2⟩, _⟩ := hSu
          skip
          try simp only [List.getElem_toArray, List.getElem_cons_succ, List.getElem_cons_zero]
          go_simp
          try with_reducible rfl
        try simp only [Act.put, List.setIfInBounds_toArray, List.set_cons_zero, List.set_cons_succ]
        refine Stg.wpAnyL_one (i := 5) 0 rfl (by kernel_rfl) (by kernel_rfl) (fun K hK => ?_)
        try simp only [List.getElem_toArray, List.getElem_cons_succ, List.getElem_cons_zero]
        go_simp
        refine hst.out.mono ?_
        rintro e u1 ⟨rfl, hA1, ho1⟩
        have e1 := ho1.block xb xd.l hxn.out.1
        have y0' := (World.cell?_of_block e1).trans (xd.c 0 _ rfl)
        have y1' := (World.cell?_of_block e1).trans (xd.c 1 _ rfl)
        have y2' := (World.cell?_of_block e1).trans (xd.c 2 _ rfl)
        refine hK.out _ _ ?_ (fun hHeld1 => ?_)
        · exact ⟨⟨y0', y1', y2'⟩, trivial⟩
        clear hK K
        try simp only [Act.put, List.setIfInBounds_toArray, List.set_cons_zero, List.set_cons_succ]
        refine Stg.wpAnyL_one (i := 11) 0 rfl (by kernel_rfl) (by kernel_rfl) (fun K hK => ?_)
        try simp only [List.getElem_toArray, List.getElem_cons_succ, List.getElem_cons_zero]
        go_simp
        refine (hst2.out _ ho1).mono ?_
        rintro e u2 ⟨rfl, hB1, ho2⟩
        have e2 := ho2.block xb (Nat.lt_of_lt_of_le xd.l ho1.size) hxn.out.2
        have y0'' := (World.cell?_of_block e2).trans y0'
        have y1'' := (World.cell?_of_block e2).trans y1'
        have y2'' := (World.cell?_of_block e2).trans y2'
        refine hK.out _ _ ?_ (fun hHeld2 => ?_)
        · exact ⟨⟨y0'', y1'', y2''⟩, trivial⟩
        clear hK K
        try simp only [Act.put, List.setIfInBounds_toArray, List.set_cons_zero, List.set_cons_succ]
        refine Stg.wpAnyL_start (n' := 2) (l' := #[true, true, true, true, true, true, true, true, true, true, true, true, false, false]) (by kernel_rfl) (by kernel_rfl) ?_
        refine Stg.wpAnyL_free (i := 12) (v := ?_) 0 rfl (by kernel_rfl) (by kernel_rfl) (by kernel_rfl) (by kernel_rfl) (by kernel_rfl) (fun _ _ _ h => h) (Or.inl ⟨by kernel_rfl, ?_⟩) (by assumption) ?_
        rotate_left
        · intro u _
          try simp only [List.getElem_toArray, List.getElem_cons_succ, List.getElem_cons_zero]
          go_simp
          try with_reducible rfl
        try simp only [Act.put, List.setIfInBounds_toArray, List.set_cons_zero, List.set_cons_succ]
        refine Stg.wpAnyL_free (i := 13) (v := ?_) 0 rfl (by kernel_rfl) (by kernel_rfl) (by kernel_rfl) (by kernel_rfl) (by kernel_rfl) (fun _ _ _ h => h) (Or.inl ⟨by kernel_rfl, ?_⟩) (by assumption) ?_
        rotate_left
        · intro u _
          try simp only [List.getElem_toArray, List.getElem_cons_succ, List.getElem_cons_zero]
          go_simp
          try with_reducible rfl
        try simp only [Act.put, List.setIfInBounds_toArray, List.set_cons_zero, List.set_cons_succ]
        refine Stg.wpAnyL_done (by kernel_rfl) ?_ _
        try simp only [List.getElem_toArray, List.getElem_cons_succ, List.getElem_cons_zero]
        try simp only [Act.put, List.setIfInBounds_toArray, List.set_cons_zero, List.set_cons_succ]
        refine NoPanic.normal ?_
        have hS8 := hS7.out.step (by omega) hA1 ho1 hB1 ho2
        replace hS8 := Lib.hid hS8
        clear hHeld hHeld1 hHeld2 y0 y1 y2 xd hst hst2 hS7 hA1 ho1 hB1 ho2 e1 y0' y1' y2' e2 y0'' y1'' y2'' hS6 xb6 hr2b hr2 hs2 hG hG2
        go_wp2_with fail
        go_meet
        case rel => exact ⟨_, _, _, _, rfl, rfl, hS8.out⟩
      obtain ⟨t2, ma2, mb2, kk, rfl, rfl, hSa⟩ := hcut
      have hS8 := hSa.out
      obtain ⟨u2, rfl⟩ : ∃ u2 : World, u2 = wc := ⟨_, rfl⟩
      clear hSa hmaB hr2b hg2 hr2 hs2 hG hG2 y0 y1 y2 xd hst hst2 hS7 hS6 xb6 hxn
      have hend : ∀ (u : World) (z : Int), Sv w [ca, cb, lb, sb, xb] B OV r ask made TD own ca cb lb sb ((i : Int) + 1) ((i : Int) + 1) dv2 sent2 read2 t2 ma2 mb2 u → Sv w [ca, cb, lb, sb] B OV r ask made TD own ca cb lb sb ((i + 1 : Nat) : Int) ((i + 1 : Nat) : Int) dv2 sent2 read2 t2 ma2 mb2 u := fun u _ h => by
        have e : ((i + 1 : Nat) : Int) = (i : Int) + 1 := by omega
        rw [e]
        exact h.re (by simp) (fun b hb => h.w b (mm_sub (by simp) b hb)) (fun d bm n EL NO T hD => ⟨fun hb => hD.md (mm_sub (by simp) _ hb), fun hb => hD.mb (mm_sub (by simp) _ hb)⟩)
      replace hend := Lib.hid hend
      have hmb2 := hS8.ib.mb
      have hma2 := hS8.ia.mb
      have hs0 := hS8.s0
      have hs1 := hS8.s1
      replace hS8 := Lib.hid hS8
      have p1 := IntWalk.i64_in (mb2 - sent2) (by omega)
      have p2 := IntWalk.i64_in (1000 * ti) (by omega)
      go_upto_region 30 with fail
      by_cases k1 : TD ≤ (i : Int)
      · by_cases k2 : 0 ≤ made
        · by_cases k3 : 0 ≤ ask
          · have q := hS8.out
            have hlaw : ∀ (EL NO : Int) (T : Int → Option Int) (d bm n : Nat), dv2 = .pointer (some ⟨d, 0, none⟩) → DK (mm B [ca, cb, lb, sb, xb]) u2 d bm n OV EL NO T → NO ≤ ma2 → (own = true → EL = 0 ∧ (((i : Int) + 1) ≤ TD → T 7 = none) ∧ (0 ≤ made → TD < ((i : Int) + 1) → T 7 = some read2)) → (own = false → 0 ≤ made ∧ made < ((i : Int) + 1) ∧ EL = read2 ∧ T 7 = none) → isOv OV EL (max NO ma2) T 7 = true → 1000 * ti ≤ mb2 - sent2 := fun EL NO T d bm n _ hD hN h4 h5 h6 => by
              have hmd : made < ((i : Int) + 1) := by
                cases ho : own with
                | true => have := td1.out ho; omega
                | false => exact (h5 ho).2.1
              obtain ⟨vt, vmb, g1, g2, g3⟩ := q.g k2 hmd
              have g4 := g3 k3
              have e : (T 7).getD EL = read2 := by
                cases ho : own with
                | true => rw [(h4 ho).2.2 k2 (by omega)]; rfl
                | false => rw [(h5 ho).2.2.2]; exact (h5 ho).2.2.1
              unfold isOv at h6
              rw [e] at h6
              have h7 : OV ≤ max NO ma2 - read2 := by simpa using h6
              have := over_law (g1.inv q.ia) (g2.inv q.ib) (by omega) t1 (by rw [hOV.out]; omega)
              omega
            rcases q.d with ⟨h1, h2, h3⟩ | ⟨d, bm, n, EL, NO, T, e1, h0, hD, ⟨hq1, hq2, hq3, hq4, hq5⟩, hT, h4, h5⟩
            · exfalso
              cases ho : own with
              | true => have := h2 ho; omega
              | false => have := h3 ho k2; have := td2.out ho; omega
            · subst e1
              have hov7 := over7 (hD.bel ((Below.refl _ _).drew)) q.l.drew q.q.2.2.1 ma2 (by omega) (by omega) (by omega) (TOk.of hT (by omega))
              have hlaw2 := hlaw EL NO T d bm n rfl hD hq4 h4 h5
              have ss := q.s.drew
              have hno := now_c ca t2 ma2 r u2.drew (q.a.below ((Below.refl _ _).drew))
              have hnb : ∀ v, v.heap[cb]? = u2.heap[cb]? → Calls Try.prog 19 #[.pointer (some ⟨cb, 0, none⟩)] v fun e w' => e = .returned (.int .i64 mb2) ∧ v = w' := fun v hv => now_c cb t2 mb2 r v (at_blk q.b hv)
              have hqq := Lib.hid q.q
              have hbl := Lib.hid q.b.lt
              have hfin : ∀ u3 x, Kp (mm B [ca, cb, lb, sb, xb]) u2 u3 → DK (mm B [ca, cb, lb, sb, xb]) u3 d bm n OV EL x T → x = max NO ma2 → Sv w [ca, cb, lb, sb, xb] B OV r ask made TD own ca cb lb sb ((i : Int) + 1) ((i : Int) + 1) (.pointer (some ⟨d, 0, none⟩)) sent2 read2 t2 ma2 mb2 u3 := fun u3 x kk3 hD3 hx => q.desk kk3 ⟨q.r0, q.r1⟩ (fun e => by omega) q.g (.inr ⟨d, bm, n, EL, x, T, rfl, h0, hD3, ⟨hq1, hq2, by omega, by omega, hq5⟩, hT, h4, h5⟩)
              replace hno := Lib.hid hno
              replace hnb := Lib.hid hnb
              replace hfin := Lib.hid hfin
              clear hlaw hD hT h4 h5 q h0
              cases hyes : isOv OV EL (max NO ma2) T 7 with
              | true =>
                have hlw := hlaw2 hyes
                have hd1 : decide (mb2 - sent2 < 1000 * ti) = false := by simpa using hlw
                rw [hyes, if_pos rfl] at hov7
                replace hov7 := Lib.hid hov7
                replace hyes := Lib.hid hyes
                clear hlaw2
                refine wp_region_noPanic ?_
                refine Stg.wp_region_L [] (fun _ v => (v.cell? ⟨sb, 0, none⟩ = some (.int .i64 0) ∧ v.cell? ⟨sb, 1, none⟩ = some (.int .i64 0) ∧ v.cell? ⟨sb, 2, none⟩ = some (.int .i64 0) ∧ v.cell? ⟨sb, 3, none⟩ = some (.slice none 0 0) ∧ v.cell? ⟨sb, 4, none⟩ = some (.slice (some ⟨lb, 0, none⟩) 1 1) ∧ v.cell? ⟨sb, 5, none⟩ = some (.slice none 0 0) ∧ v.cell? ⟨sb, 6, none⟩ = some (.slice none 0 0)) ∧ True) (by kernel_rfl) (⟨⟨ss.c 0 _ rfl, ss.c 1 _ rfl, ss.c 2 _ rfl, ss.c 3 _ rfl, ss.c 4 _ rfl, ss.c 5 _ rfl, ss.c 6 _ rfl⟩, trivial⟩) (fun hHeld => ?_)
                refine Stg.wpAnyL_start (n' := 33) (l' := #[false, false, false, false, false, false, false, false, false, false, false, false, false, false, false, false, false, false, false, false, false, false, false, false, false, false, false, false, false, false, false, false, false]) (by kernel_rfl) (by kernel_rfl) ?_
                refine Stg.wpAnyL_free (i := 0) (v := ?_) 0 rfl (by kernel_rfl) (by kernel_rfl) (by kernel_rfl) (by kernel_rfl) (by kernel_rfl) (fun _ _ _ h => h) (Or.inl ⟨by kernel_rfl, ?_⟩) (by assumption) ?_
                rotate_left
                · intro u _
                  try simp only [List.getElem_toArray, List.getElem_cons_succ, List.getElem_cons_zero]
                  go_simp
                  try with_reducible rfl
                try simp only [Act.put, List.setIfInBounds_toArray, List.set_cons_zero, List.set_cons_succ]
                refine Stg.wpAnyL_free (i := 1) (v := ?_) 0 rfl (by kernel_rfl) (by kernel_rfl) (by kernel_rfl) (by kernel_rfl) (by kernel_rfl) (fun _ _ _ h => h) (Or.inl ⟨by kernel_rfl, ?_⟩) (by assumption) ?_
                rotate_left
                · intro u _
                  try simp only [List.getElem_toArray, List.getElem_cons_succ, List.getElem_cons_zero]
                  go_simp
                  try with_reducible rfl
                try simp only [Act.put, List.setIfInBounds_toArray, List.set_cons_zero, List.set_cons_succ]
                refine Stg.wpAnyL_free (i := 2) (v := ?_) 0 rfl (by kernel_rfl) (by kernel_rfl) (by kernel_rfl) (by kernel_rfl) (by kernel_rfl) (fun _ _ _ h => h) (Or.inl ⟨by kernel_rfl, ?_⟩) (by assumption) ?_
                rotate_left
                · intro u _
                  try simp only [List.getElem_toArray, List.getElem_cons_succ, List.getElem_cons_zero]
                  go_simp
                  try with_reducible rfl
                try simp only [Act.put, List.setIfInBounds_toArray, List.set_cons_zero, List.set_cons_succ]
                refine Stg.wpAnyL_start (n' := 30) (l' := #[true, true, true, false, false, false, false, false, false, false, false, false, false, false, false, false, false, false, false, false, false, false, false, false, false, false, false, false, false, false, false, false, false]) (by kernel_rfl) (by kernel_rfl) ?_
                refine Stg.wpAnyL_free (i := 3) (v := ?_) 0 rfl (by kernel_rfl) (by kernel_rfl) (by kernel_rfl) (by kernel_rfl) (by kernel_rfl) (fun _ _ _ h => h) (Or.inl ⟨by kernel_rfl, ?_⟩) (by assumption) ?_
                rotate_left
                · intro u _
                  try simp only [List.getElem_toArray, List.getElem_cons_succ, List.getElem_cons_zero]
                  go_simp
                  try with_reducible rfl
                try simp only [Act.put, List.setIfInBounds_toArray, List.set_cons_zero, List.set_cons_succ]
                refine Stg.wpAnyL_free (i := 4) (v := ?_) 0 rfl (by kernel_rfl) (by kernel_rfl) (by kernel_rfl) (by kernel_rfl) (by kernel_rfl) (fun _ _ _ h => h) (Or.inl ⟨by kernel_rfl, ?_⟩) (by assumption) ?_
                rotate_left
                · intro u _
                  try simp only [List.getElem_toArray, List.getElem_cons_succ, List.getElem_cons_zero]
                  go_simp
                  try with_reducible rfl
                try simp only [Act.put, List.setIfInBounds_toArray, List.set_cons_zero, List.set_cons_succ]
                refine Stg.wpAnyL_free (i := 5) (v := ?_) 0 rfl (by kernel_rfl) (by kernel_rfl) (by kernel_rfl) (by kernel_rfl) (by kernel_rfl) (fun _ _ _ h => h) (Or.inl ⟨by kernel_rfl, ?_⟩) (by assumption) ?_
                rotate_left
                · intro u _
                  try simp only [List.getElem_toArray, List.getElem_cons_succ, List.getElem_cons_zero]
                  go_simp
                  try with_reducible rfl
                try simp only [Act.put, List.setIfInBounds_toArray, List.set_cons_zero, List.set_cons_succ]
                refine Stg.wpAnyL_start (n' := 27) (l' := #[true, true, true, true, true, true, false, false, false, false, false, false, false, false, false, false, false, false, false, false, false, false, false, false, false, false, false, false, false, false, false, false, false]) (by kernel_rfl) (by kernel_rfl) ?_
                refine Stg.wpAnyL_free (i := 6) (v := ?_) 0 rfl (by kernel_rfl) (by kernel_rfl) (by kernel_rfl) (by kernel_rfl) (by kernel_rfl) (fun _ _ _ h => h) (Or.inl ⟨by kernel_rfl, ?_⟩) (by assumption) ?_
                rotate_left
                · intro u _
                  try simp only [List.getElem_toArray, List.getElem_cons_succ, List.getElem_cons_zero]
                  go_simp
                  try with_reducible rfl
                try simp only [Act.put, List.setIfInBounds_toArray, List.set_cons_zero, List.set_cons_succ]
                refine Stg.wpAnyL_free (i := 7) (v := ?_) 0 rfl (by kernel_rfl) (by kernel_rfl) (by kernel_rfl) (by kernel_rfl) (by kernel_rfl) (fun _ _ _ h => h) (Or.inl ⟨by kernel_rfl, ?_⟩) (by assumption) ?_
                rotate_left
                · intro u _
                  try simp only [List.getElem_toArray, List.getElem_cons_succ, List.getElem_cons_zero]
                  go_simp
                  try with_reducible rfl
                try simp only [Act.put, List.setIfInBounds_toArray, List.set_cons_zero, List.set_cons_succ]
                refine Stg.wpAnyL_free (i := 8) (v := ?_) 0 rfl (by kernel_rfl) (by kernel_rfl) (by kernel_rfl) (by kernel_rfl) (by kernel_rfl) (fun _ _ _ h => h) (Or.inl ⟨by kernel_rfl, ?_⟩) (by assumption) ?_
                rotate_left
                · intro u _
                  try simp only [List.getElem_toArray, List.getElem_cons_succ, List.getElem_cons_zero]
                  go_simp
                  try with_reducible rfl
                try simp only [Act.put, List.setIfInBounds_toArray, List.set_cons_zero, List.set_cons_succ]
                refine Stg.wpAnyL_start (n' := 24) (l' := #[true, true, true, true, true, true, true, true, true, false, false, false, false, false, false, false, false, false, false, false, false, false, false, false, false, false, false, false, false, false, false, false, false]) (by kernel_rfl) (by kernel_rfl) ?_
                refine Stg.wpAnyL_free (i := 9) (v := ?_) 0 rfl (by kernel_rfl) (by kernel_rfl) (by kernel_rfl) (by kernel_rfl) (by kernel_rfl) (fun _ _ _ h => h) (Or.inl ⟨by kernel_rfl, ?_⟩) (by assumption) ?_
                rotate_left
                · intro u _
                  try simp only [List.getElem_toArray, List.getElem_cons_succ, List.getElem_cons_zero]
                  go_simp
                  try with_reducible rfl
                try simp only [Act.put, List.setIfInBounds_toArray, List.set_cons_zero, List.set_cons_succ]
                refine Stg.wpAnyL_free (i := 10) (v := ?_) 0 rfl (by kernel_rfl) (by kernel_rfl) (by kernel_rfl) (by kernel_rfl) (by kernel_rfl) (fun _ _ _ h => h) (Or.inl ⟨by kernel_rfl, ?_⟩) (by assumption) ?_
                rotate_left
                · intro u _
                  try simp only [List.getElem_toArray, List.getElem_cons_succ, List.getElem_cons_zero]
                  go_simp
                  try with_reducible rfl
                try simp only [Act.put, List.setIfInBounds_toArray, List.set_cons_zero, List.set_cons_succ]
                refine Stg.wpAnyL_free (i := 11) (v := ?_) 0 rfl (by kernel_rfl) (by kernel_rfl) (by kernel_rfl) (by kernel_rfl) (by kernel_rfl) (fun _ _ _ h => h) (Or.inl ⟨by kernel_rfl, ?_⟩) (by assumption) ?_
                rotate_left
                · intro u _
                  try simp only [List.getElem_toArray, List.getElem_cons_succ, List.getElem_cons_zero]
                  go_simp
                  try with_reducible rfl
                try simp only [Act.put, List.setIfInBounds_toArray, List.set_cons_zero, List.set_cons_succ]
                refine Stg.wpAnyL_start (n' := 21) (l' := #[true, true, true, true, true, true, true, true, true, true, true, true, false, false, false, false, false, false, false, false, false, false, false, false, false, false, false, false, false, false, false, false, false]) (by kernel_rfl) (by kernel_rfl) ?_
                refine Stg.wpAnyL_free (i := 12) (v := ?_) 0 rfl (by kernel_rfl) (by kernel_rfl) (by kernel_rfl) (by kernel_rfl) (by kernel_rfl) (fun _ _ _ h => h) (Or.inl ⟨by kernel_rfl, ?_⟩) (by assumption) ?_
                rotate_left
                · intro u _
                  try simp only [List.getElem_toArray, List.getElem_cons_succ, List.getElem_cons_zero]
                  go_simp
                  try with_reducible rfl
                try simp only [Act.put, List.setIfInBounds_toArray, List.set_cons_zero, List.set_cons_succ]
                refine Stg.wpAnyL_free (i := 13) (v := ?_) 0 rfl (by kernel_rfl) (by kernel_rfl) (by kernel_rfl) (by kernel_rfl) (by kernel_rfl) (fun _ _ _ h => h) (Or.inl ⟨by kernel_rfl, ?_⟩) (by assumption) ?_
                rotate_left
                · intro u _
                  try simp only [List.getElem_toArray, List.getElem_cons_succ, List.getElem_cons_zero]
                  go_simp
                  try with_reducible rfl
                try simp only [Act.put, List.setIfInBounds_toArray, List.set_cons_zero, List.set_cons_succ]
                refine Stg.wpAnyL_free (i := 14) (v := ?_) 0 rfl (by kernel_rfl) (by kernel_rfl) (by kernel_rfl) (by kernel_rfl) (by kernel_rfl) (fun _ _ _ h => h) (Or.inl ⟨by kernel_rfl, ?_⟩) (by assumption) ?_
                rotate_left
                · intro u _
                  try simp only [List.getElem_toArray, List.getElem_cons_succ, List.getElem_cons_zero]
                  go_simp
                  try with_reducible rfl
                try simp only [Act.put, List.setIfInBounds_toArray, List.set_cons_zero, List.set_cons_succ]
                refine Stg.wpAnyL_start (n' := 18) (l' := #[true, true, true, true, true, true, true, true, true, true, true, true, true, true, true, false, false, false, false, false, false, false, false, false, false, false, false, false, false, false, false, false, false]) (by kernel_rfl) (by kernel_rfl) ?_
                refine Stg.wpAnyL_free (i := 15) (v := ?_) 0 rfl (by kernel_rfl) (by kernel_rfl) (by kernel_rfl) (by kernel_rfl) (by kernel_rfl) (fun _ _ _ h => h) (Or.inl ⟨by kernel_rfl, ?_⟩) (by assumption) ?_
                rotate_left
                · intro u _
                  try simp only [List.getElem_toArray, List.getElem_cons_succ, List.getElem_cons_zero]
                  go_simp
                  try with_reducible rfl
                try simp only [Act.put, List.setIfInBounds_toArray, List.set_cons_zero, List.set_cons_succ]
                refine Stg.wpAnyL_free (i := 16) (v := ?_) 0 rfl (by kernel_rfl) (by kernel_rfl) (by kernel_rfl) (by kernel_rfl) (by kernel_rfl) (fun _ _ _ h => h) (Or.inl ⟨by kernel_rfl, ?_⟩) (by assumption) ?_
                rotate_left
                · intro u _
                  try simp only [List.getElem_toArray, List.getElem_cons_succ, List.getElem_cons_zero]
                  go_simp
                  try with_reducible rfl
                try simp only [Act.put, List.setIfInBounds_toArray, List.set_cons_zero, List.set_cons_succ]
                refine Stg.wpAnyL_take (i := 17) (v := ?_) [20, 21, 22, 23, 24, 25, 26, 27, 28, 29, 30, 31, 32] 0 rfl (by kernel_rfl) (by kernel_rfl) (by kernel_rfl) (by kernel_rfl) (by kernel_rfl) (fun _ _ _ h => h) (Or.inl ⟨by kernel_rfl, ?_⟩) (by assumption) ?_
                rotate_left
                · intro u hSu
                  obtain ⟨⟨y0, y1, y2, y3, y4, y5, y6⟩, _⟩ := hSu
                  skip
                  try simp only [List.getElem_toArray, List.getElem_cons_succ, List.getElem_cons_zero]
                  go_simp
                  try with_reducible rfl
                try simp only [Act.put, List.setIfInBounds_toArray, List.set_cons_zero, List.set_cons_succ]
                refine Stg.wpAnyL_start (n' := 15) (l' := #[true, true, true, true, true, true, true, true, true, true, true, true, true, true, true, true, true, true, false, false, false, false, false, false, false, false, false, false, false, false, false, false, false]) (by kernel_rfl) (by kernel_rfl) ?_
                refine Stg.wpAnyL_free (i := 18) (v := ?_) 0 rfl (by kernel_rfl) (by kernel_rfl) (by kernel_rfl) (by kernel_rfl) (by kernel_rfl) (fun _ _ _ h => h) (Or.inl ⟨by kernel_rfl, ?_⟩) (by assumption) ?_
                rotate_left
                · intro u _
                  try simp only [List.getElem_toArray, List.getElem_cons_succ, List.getElem_cons_zero]
                  go_simp
                  try with_reducible rfl
                try simp only [Act.put, List.setIfInBounds_toArray, List.set_cons_zero, List.set_cons_succ]
                refine Stg.wpAnyL_one (i := 19) 0 rfl (by kernel_rfl) (by kernel_rfl) (fun K hK => ?_)
                try simp only [List.getElem_toArray, List.getElem_cons_succ, List.getElem_cons_zero]
                go_simp
                refine hno.out.mono ?_
                rintro e u3 ⟨rfl, rfl⟩
                refine hK.out _ _ ?_ (fun hHeld1 => ?_)
                · exact ⟨⟨ss.c 0 _ rfl, ss.c 1 _ rfl, ss.c 2 _ rfl, ss.c 3 _ rfl, ss.c 4 _ rfl, ss.c 5 _ rfl, ss.c 6 _ rfl⟩, trivial⟩
                clear hK K
                try simp only [Act.put, List.setIfInBounds_toArray, List.set_cons_zero, List.set_cons_succ]
                refine Stg.wpAnyL_one (i := 20) 0 rfl (by kernel_rfl) (by kernel_rfl) (fun K hK => ?_)
                try simp only [List.getElem_toArray, List.getElem_cons_succ, List.getElem_cons_zero]
                go_simp
                refine hov7.out.mono ?_
                rintro e u4 ⟨v1, rfl, ⟨a1, cc1, rfl, _⟩, hD4, k4⟩
                have ss2 := k4.blk ss (.inr hqq.out.2.2.2)
                have k5 := (Kp.refl (mm B [ca, cb, lb, sb, xb]) u2).drew.trans k4
                simp only [List.length_nil, List.length_cons, List.length_singleton]
                refine hK.out _ _ ?_ (fun hHeld2 => ?_)
                · exact ⟨⟨ss2.c 0 _ rfl, ss2.c 1 _ rfl, ss2.c 2 _ rfl, ss2.c 3 _ rfl, ss2.c 4 _ rfl, ss2.c 5 _ rfl, ss2.c 6 _ rfl⟩, trivial⟩
                clear hK K
                try simp only [Act.put, List.setIfInBounds_toArray, List.set_cons_zero, List.set_cons_succ]
                refine Stg.wpAnyL_start (n' := 12) (l' := #[true, true, true, true, true, true, true, true, true, true, true, true, true, true, true, true, true, true, true, true, true, false, false, false, false, false, false, false, false, false, false, false, false]) (by kernel_rfl) (by kernel_rfl) ?_
                refine Stg.wpAnyL_free (i := 21) (v := ?_) 0 rfl (by kernel_rfl) (by kernel_rfl) (by kernel_rfl) (by kernel_rfl) (by kernel_rfl) (fun _ _ _ h => h) (Or.inl ⟨by kernel_rfl, ?_⟩) (by assumption) ?_
                rotate_left
                · intro u _
                  try simp only [List.getElem_toArray, List.getElem_cons_succ, List.getElem_cons_zero]
                  go_simp
                  try with_reducible rfl
                try simp only [Act.put, List.setIfInBounds_toArray, List.set_cons_zero, List.set_cons_succ]
                refine Stg.wpAnyL_free (i := 22) (v := ?_) 0 rfl (by kernel_rfl) (by kernel_rfl) (by kernel_rfl) (by kernel_rfl) (by kernel_rfl) (fun _ _ _ h => h) (Or.inl ⟨by kernel_rfl, ?_⟩) (by assumption) ?_
                rotate_left
                · intro u _
                  try simp only [List.getElem_toArray, List.getElem_cons_succ, List.getElem_cons_zero]
                  go_simp
                  try with_reducible rfl
                try simp only [Act.put, List.setIfInBounds_toArray, List.set_cons_zero, List.set_cons_succ]
                refine Stg.wpAnyL_free (i := 23) (v := ?_) 0 rfl (by kernel_rfl) (by kernel_rfl) (by kernel_rfl) (by kernel_rfl) (by kernel_rfl) (fun _ _ _ h => h) (Or.inl ⟨by kernel_rfl, ?_⟩) (by assumption) ?_
                rotate_left
                · intro u _
                  try simp only [List.getElem_toArray, List.getElem_cons_succ, List.getElem_cons_zero]
                  go_simp
                  try with_reducible rfl
                try simp only [Act.put, List.setIfInBounds_toArray, List.set_cons_zero, List.set_cons_succ]
                refine Stg.wpAnyL_start (n' := 9) (l' := #[true, true, true, true, true, true, true, true, true, true, true, true, true, true, true, true, true, true, true, true, true, true, true, true, false, false, false, false, false, false, false, false, false]) (by kernel_rfl) (by kernel_rfl) ?_
                refine Stg.wpAnyL_free (i := 24) (v := ?_) 0 rfl (by kernel_rfl) (by kernel_rfl) (by kernel_rfl) (by kernel_rfl) (by kernel_rfl) (fun _ _ _ h => h) (Or.inl ⟨by kernel_rfl, ?_⟩) (by assumption) ?_
                rotate_left
                · intro u _
                  try simp only [List.getElem_toArray, List.getElem_cons_succ, List.getElem_cons_zero]
                  go_simp
                  try with_reducible rfl
                try simp only [Act.put, List.setIfInBounds_toArray, List.set_cons_zero, List.set_cons_succ]
                refine Stg.wpAnyL_free (i := 25) (v := ?_) 0 rfl (by kernel_rfl) (by kernel_rfl) (by kernel_rfl) (by kernel_rfl) (by kernel_rfl) (fun _ _ _ h => h) (Or.inl ⟨by kernel_rfl, ?_⟩) (by assumption) ?_
                rotate_left
                · intro u _
                  try simp only [List.getElem_toArray, List.getElem_cons_succ, List.getElem_cons_zero]
                  go_simp
                  try with_reducible rfl
                try simp only [Act.put, List.setIfInBounds_toArray, List.set_cons_zero, List.set_cons_succ]
                refine Stg.wpAnyL_free (i := 27) (v := ?_) 0 rfl (by kernel_rfl) (by kernel_rfl) (by kernel_rfl) (by kernel_rfl) (by kernel_rfl) (fun _ _ _ h => h) (Or.inl ⟨by kernel_rfl, ?_⟩) (by assumption) ?_
                rotate_left
                · intro u _
                  try simp only [List.getElem_toArray, List.getElem_cons_succ, List.getElem_cons_zero]
                  go_simp
                  try with_reducible rfl
                try simp only [Act.put, List.setIfInBounds_toArray, List.set_cons_zero, List.set_cons_succ]
                refine Stg.wpAnyL_start (n' := 6) (l' := #[true, true, true, true, true, true, true, true, true, true, true, true, true, true, true, true, true, true, true, true, true, true, true, true, true, true, false, true, false, false, false, false, false]) (by kernel_rfl) (by kernel_rfl) ?_
                refine Stg.wpAnyL_free (i := 29) (v := ?_) 0 rfl (by kernel_rfl) (by kernel_rfl) (by kernel_rfl) (by kernel_rfl) (by kernel_rfl) (fun _ _ _ h => h) (Or.inl ⟨by kernel_rfl, ?_⟩) (by assumption) ?_
                rotate_left
                · intro u _
                  try simp only [List.getElem_toArray, List.getElem_cons_succ, List.getElem_cons_zero]
                  go_simp
                  try with_reducible rfl
                try simp only [Act.put, List.setIfInBounds_toArray, List.set_cons_zero, List.set_cons_succ]
                refine Stg.wpAnyL_free (i := 30) (v := ?_) 0 rfl (by kernel_rfl) (by kernel_rfl) (by kernel_rfl) (by kernel_rfl) (by kernel_rfl) (fun _ _ _ h => h) (Or.inl ⟨by kernel_rfl, ?_⟩) (by assumption) ?_
                rotate_left
                · intro u _
                  try simp only [List.getElem_toArray, List.getElem_cons_succ, List.getElem_cons_zero]
                  go_simp
                  try with_reducible rfl
                try simp only [Act.put, List.setIfInBounds_toArray, List.set_cons_zero, List.set_cons_succ]
                refine Stg.wpAnyL_one (i := 26) 0 rfl (by kernel_rfl) (by kernel_rfl) (fun K hK => ?_)
                try simp only [List.getElem_toArray, List.getElem_cons_succ, List.getElem_cons_zero]
                go_simp
                refine (hnb.out _ (k5.k cb (.inr hqq.out.2.1) hbl.out)).mono ?_
                rintro e u5 ⟨rfl, rfl⟩
                refine hK.out _ _ ?_ (fun hHeld3 => ?_)
                · exact ⟨⟨ss2.c 0 _ rfl, ss2.c 1 _ rfl, ss2.c 2 _ rfl, ss2.c 3 _ rfl, ss2.c 4 _ rfl, ss2.c 5 _ rfl, ss2.c 6 _ rfl⟩, trivial⟩
                clear hK K
                try simp only [Act.put, List.setIfInBounds_toArray, List.set_cons_zero, List.set_cons_succ]
                refine Stg.wpAnyL_start (n' := 3) (l' := #[true, true, true, true, true, true, true, true, true, true, true, true, true, true, true, true, true, true, true, true, true, true, true, true, true, true, true, true, false, true, true, false, false]) (by kernel_rfl) (by kernel_rfl) ?_
                refine Stg.wpAnyL_free (i := 28) (v := ?_) 0 rfl (by kernel_rfl) (by kernel_rfl) (by kernel_rfl) (by kernel_rfl) (by kernel_rfl) (fun _ _ _ h => h) (Or.inl ⟨by kernel_rfl, ?_⟩) (by assumption) ?_
                rotate_left
                · intro u _
                  try simp only [List.getElem_toArray, List.getElem_cons_succ, List.getElem_cons_zero]
                  go_simp
                  try with_reducible rfl
                try simp only [Act.put, List.setIfInBounds_toArray, List.set_cons_zero, List.set_cons_succ]
                refine Stg.wpAnyL_free (i := 31) (v := ?_) 0 rfl (by kernel_rfl) (by kernel_rfl) (by kernel_rfl) (by kernel_rfl) (by kernel_rfl) (fun _ _ _ h => h) (Or.inl ⟨by kernel_rfl, ?_⟩) (by assumption) ?_
                rotate_left
                · intro u _
                  try simp only [List.getElem_toArray, List.getElem_cons_succ, List.getElem_cons_zero]
                  go_simp
                  try with_reducible rfl
                try simp only [Act.put, List.setIfInBounds_toArray, List.set_cons_zero, List.set_cons_succ]
                refine Stg.wpAnyL_free (i := 32) (v := ?_) 0 rfl (by kernel_rfl) (by kernel_rfl) (by kernel_rfl) (by kernel_rfl) (by kernel_rfl) (fun _ _ _ h => h) (Or.inl ⟨by kernel_rfl, ?_⟩) (by assumption) ?_
                rotate_left
                · intro u _
                  try simp only [List.getElem_toArray, List.getElem_cons_succ, List.getElem_cons_zero]
                  go_simp
                  try with_reducible rfl
                try simp only [Act.put, List.setIfInBounds_toArray, List.set_cons_zero, List.set_cons_succ]
                refine Stg.wpAnyL_done (by kernel_rfl) ?_ _
                try simp only [List.getElem_toArray, List.getElem_cons_succ, List.getElem_cons_zero]
                try simp only [Act.put, List.setIfInBounds_toArray, List.set_cons_zero, List.set_cons_succ]
                refine NoPanic.normal ?_
                clear hHeld3
                have hS9 := hfin.out _ _ k5 hD4 rfl
                replace hS9 := Lib.hid hS9
                clear hHeld1 hHeld2 ss2 k4 hD4 hno hov7 hnb
                clear k5
                replace hend := Lib.hid (hend.out _ 0 (hS9.out))
                clear hHeld
                go_wp2_with fail
                go_roundg (N - (i + 1))
                case measure => omega
                case rel => exact ⟨i + 1, _, sent2, read2, t2, ma2, mb2, rfl, rfl, rfl, by go_num, by omega, by omega, hend.out⟩
              | false =>
                rw [hyes] at hov7
                simp only [Bool.false_eq_true, if_false] at hov7
                replace hov7 := Lib.hid hov7
                replace hyes := Lib.hid hyes
                clear hlaw2
                refine wp_region_noPanic ?_
                refine Stg.wp_region_L [] (fun _ v => (v.cell? ⟨sb, 0, none⟩ = some (.int .i64 0) ∧ v.cell? ⟨sb, 1, none⟩ = some (.int .i64 0) ∧ v.cell? ⟨sb, 2, none⟩ = some (.int .i64 0) ∧ v.cell? ⟨sb, 3, none⟩ = some (.slice none 0 0) ∧ v.cell? ⟨sb, 4, none⟩ = some (.slice (some ⟨lb, 0, none⟩) 1 1) ∧ v.cell? ⟨sb, 5, none⟩ = some (.slice none 0 0) ∧ v.cell? ⟨sb, 6, none⟩ = some (.slice none 0 0)) ∧ True) (by kernel_rfl) (⟨⟨ss.c 0 _ rfl, ss.c 1 _ rfl, ss.c 2 _ rfl, ss.c 3 _ rfl, ss.c 4 _ rfl, ss.c 5 _ rfl, ss.c 6 _ rfl⟩, trivial⟩) (fun hHeld => ?_)
                refine Stg.wpAnyL_start (n' := 33) (l' := #[false, false, false, false, false, false, false, false, false, false, false, false, false, false, false, false, false, false, false, false, false, false, false, false, false, false, false, false, false, false, false, false, false]) (by kernel_rfl) (by kernel_rfl) ?_
                refine Stg.wpAnyL_free (i := 0) (v := ?_) 0 rfl (by kernel_rfl) (by kernel_rfl) (by kernel_rfl) (by kernel_rfl) (by kernel_rfl) (fun _ _ _ h => h) (Or.inl ⟨by kernel_rfl, ?_⟩) (by assumption) ?_
                rotate_left
                · intro u _
                  try simp only [List.getElem_toArray, List.getElem_cons_succ, List.getElem_cons_zero]
                  go_simp
                  try with_reducible rfl
                try simp only [Act.put, List.setIfInBounds_toArray, List.set_cons_zero, List.set_cons_succ]
                refine Stg.wpAnyL_free (i := 1) (v := ?_) 0 rfl (by kernel_rfl) (by kernel_rfl) (by kernel_rfl) (by kernel_rfl) (by kernel_rfl) (fun _ _ _ h => h) (Or.inl ⟨by kernel_rfl, ?_⟩) (by assumption) ?_
                rotate_left
                · intro u _
                  try simp only [List.getElem_toArray, List.getElem_cons_succ, List.getElem_cons_zero]
                  go_simp
                  try with_reducible rfl
                try simp only [Act.put, List.setIfInBounds_toArray, List.set_cons_zero, List.set_cons_succ]
                refine Stg.wpAnyL_free (i := 2) (v := ?_) 0 rfl (by kernel_rfl) (by kernel_rfl) (by kernel_rfl) (by kernel_rfl) (by kernel_rfl) (fun _ _ _ h => h) (Or.inl ⟨by kernel_rfl, ?_⟩) (by assumption) ?_
                rotate_left
                · intro u _
                  try simp only [List.getElem_toArray, List.getElem_cons_succ, List.getElem_cons_zero]
                  go_simp
                  try with_reducible rfl
                try simp only [Act.put, List.setIfInBounds_toArray, List.set_cons_zero, List.set_cons_succ]
                refine Stg.wpAnyL_start (n' := 30) (l' := #[true, true, true, false, false, false, false, false, false, false, false, false, false, false, false, false, false, false, false, false, false, false, false, false, false, false, false, false, false, false, false, false, false]) (by kernel_rfl) (by kernel_rfl) ?_
                refine Stg.wpAnyL_free (i := 3) (v := ?_) 0 rfl (by kernel_rfl) (by kernel_rfl) (by kernel_rfl) (by kernel_rfl) (by kernel_rfl) (fun _ _ _ h => h) (Or.inl ⟨by kernel_rfl, ?_⟩) (by assumption) ?_
                rotate_left
                · intro u _
                  try simp only [List.getElem_toArray, List.getElem_cons_succ, List.getElem_cons_zero]
                  go_simp
                  try with_reducible rfl
                try simp only [Act.put, List.setIfInBounds_toArray, List.set_cons_zero, List.set_cons_succ]
                refine Stg.wpAnyL_free (i := 4) (v := ?_) 0 rfl (by kernel_rfl) (by kernel_rfl) (by kernel_rfl) (by kernel_rfl) (by kernel_rfl) (fun _ _ _ h => h) (Or.inl ⟨by kernel_rfl, ?_⟩) (by assumption) ?_
                rotate_left
                · intro u _
                  try simp only [List.getElem_toArray, List.getElem_cons_succ, List.getElem_cons_zero]
                  go_simp
                  try with_reducible rfl
                try simp only [Act.put, List.setIfInBounds_toArray, List.set_cons_zero, List.set_cons_succ]
                refine Stg.wpAnyL_free (i := 5) (v := ?_) 0 rfl (by kernel_rfl) (by kernel_rfl) (by kernel_rfl) (by kernel_rfl) (by kernel_rfl) (fun _ _ _ h => h) (Or.inl ⟨by kernel_rfl, ?_⟩) (by assumption) ?_
                rotate_left
                · intro u _
                  try simp only [List.getElem_toArray, List.getElem_cons_succ, List.getElem_cons_zero]
                  go_simp
                  try with_reducible rfl
                try simp only [Act.put, List.setIfInBounds_toArray, List.set_cons_zero, List.set_cons_succ]
                refine Stg.wpAnyL_start (n' := 27) (l' := #[true, true, true, true, true, true, false, false, false, false, false, false, false, false, false, false, false, false, false, false, false, false, false, false, false, false, false, false, false, false, false, false, false]) (by kernel_rfl) (by kernel_rfl) ?_
                refine Stg.wpAnyL_free (i := 6) (v := ?_) 0 rfl (by kernel_rfl) (by kernel_rfl) (by kernel_rfl) (by kernel_rfl) (by kernel_rfl) (fun _ _ _ h => h) (Or.inl ⟨by kernel_rfl, ?_⟩) (by assumption) ?_
                rotate_left
                · intro u _
                  try simp only [List.getElem_toArray, List.getElem_cons_succ, List.getElem_cons_zero]
                  go_simp
                  try with_reducible rfl
                try simp only [Act.put, List.setIfInBounds_toArray, List.set_cons_zero, List.set_cons_succ]
                refine Stg.wpAnyL_free (i := 7) (v := ?_) 0 rfl (by kernel_rfl) (by kernel_rfl) (by kernel_rfl) (by kernel_rfl) (by kernel_rfl) (fun _ _ _ h => h) (Or.inl ⟨by kernel_rfl, ?_⟩) (by assumption) ?_
                rotate_left
                · intro u _
                  try simp only [List.getElem_toArray, List.getElem_cons_succ, List.getElem_cons_zero]
                  go_simp
                  try with_reducible rfl
                try simp only [Act.put, List.setIfInBounds_toArray, List.set_cons_zero, List.set_cons_succ]
                refine Stg.wpAnyL_free (i := 8) (v := ?_) 0 rfl (by kernel_rfl) (by kernel_rfl) (by kernel_rfl) (by kernel_rfl) (by kernel_rfl) (fun _ _ _ h => h) (Or.inl ⟨by kernel_rfl, ?_⟩) (by assumption) ?_
                rotate_left
                · intro u _
                  try simp only [List.getElem_toArray, List.getElem_cons_succ, List.getElem_cons_zero]
                  go_simp
                  try with_reducible rfl
                try simp only [Act.put, List.setIfInBounds_toArray, List.set_cons_zero, List.set_cons_succ]
                refine Stg.wpAnyL_start (n' := 24) (l' := #[true, true, true, true, true, true, true, true, true, false, false, false, false, false, false, false, false, false, false, false, false, false, false, false, false, false, false, false, false, false, false, false, false]) (by kernel_rfl) (by kernel_rfl) ?_
                refine Stg.wpAnyL_free (i := 9) (v := ?_) 0 rfl (by kernel_rfl) (by kernel_rfl) (by kernel_rfl) (by kernel_rfl) (by kernel_rfl) (fun _ _ _ h => h) (Or.inl ⟨by kernel_rfl, ?_⟩) (by assumption) ?_
                rotate_left
                · intro u _
                  try simp only [List.getElem_toArray, List.getElem_cons_succ, List.getElem_cons_zero]
                  go_simp
                  try with_reducible rfl
                try simp only [Act.put, List.setIfInBounds_toArray, List.set_cons_zero, List.set_cons_succ]
                refine Stg.wpAnyL_free (i := 10) (v := ?_) 0 rfl (by kernel_rfl) (by kernel_rfl) (by kernel_rfl) (by kernel_rfl) (by kernel_rfl) (fun _ _ _ h => h) (Or.inl ⟨by kernel_rfl, ?_⟩) (by assumption) ?_
                rotate_left
                · intro u _
                  try simp only [List.getElem_toArray, List.getElem_cons_succ, List.getElem_cons_zero]
                  go_simp
                  try with_reducible rfl
                try simp only [Act.put, List.setIfInBounds_toArray, List.set_cons_zero, List.set_cons_succ]
                refine Stg.wpAnyL_free (i := 11) (v := ?_) 0 rfl (by kernel_rfl) (by kernel_rfl) (by kernel_rfl) (by kernel_rfl) (by kernel_rfl) (fun _ _ _ h => h) (Or.inl ⟨by kernel_rfl, ?_⟩) (by assumption) ?_
                rotate_left
                · intro u _
                  try simp only [List.getElem_toArray, List.getElem_cons_succ, List.getElem_cons_zero]
                  go_simp
                  try with_reducible rfl
                try simp only [Act.put, List.setIfInBounds_toArray, List.set_cons_zero, List.set_cons_succ]
                refine Stg.wpAnyL_start (n' := 21) (l' := #[true, true, true, true, true, true, true, true, true, true, true, true, false, false, false, false, false, false, false, false, false, false, false, false, false, false, false, false, false, false, false, false, false]) (by kernel_rfl) (by kernel_rfl) ?_
                refine Stg.wpAnyL_free (i := 12) (v := ?_) 0 rfl (by kernel_rfl) (by kernel_rfl) (by kernel_rfl) (by kernel_rfl) (by kernel_rfl) (fun _ _ _ h => h) (Or.inl ⟨by kernel_rfl, ?_⟩) (by assumption) ?_
                rotate_left
                · intro u _
                  try simp only [List.getElem_toArray, List.getElem_cons_succ, List.getElem_cons_zero]
                  go_simp
                  try with_reducible rfl
                try simp only [Act.put, List.setIfInBounds_toArray, List.set_cons_zero, List.set_cons_succ]
                refine Stg.wpAnyL_free (i := 13) (v := ?_) 0 rfl (by kernel_rfl) (by kernel_rfl) (by kernel_rfl) (by kernel_rfl) (by kernel_rfl) (fun _ _ _ h => h) (Or.inl ⟨by kernel_rfl, ?_⟩) (by assumption) ?_
                rotate_left
                · intro u _
                  try simp only [List.getElem_toArray, List.getElem_cons_succ, List.getElem_cons_zero]
                  go_simp
                  try with_reducible rfl
                try simp only [Act.put, List.setIfInBounds_toArray, List.set_cons_zero, List.set_cons_succ]
                refine Stg.wpAnyL_free (i := 14) (v := ?_) 0 rfl (by kernel_rfl) (by kernel_rfl) (by kernel_rfl) (by kernel_rfl) (by kernel_rfl) (fun _ _ _ h => h) (Or.inl ⟨by kernel_rfl, ?_⟩) (by assumption) ?_
                rotate_left
                · intro u _
                  try simp only [List.getElem_toArray, List.getElem_cons_succ, List.getElem_cons_zero]
                  go_simp
                  try with_reducible rfl
                try simp only [Act.put, List.setIfInBounds_toArray, List.set_cons_zero, List.set_cons_succ]
                refine Stg.wpAnyL_start (n' := 18) (l' := #[true, true, true, true, true, true, true, true, true, true, true, true, true, true, true, false, false, false, false, false, false, false, false, false, false, false, false, false, false, false, false, false, false]) (by kernel_rfl) (by kernel_rfl) ?_
                refine Stg.wpAnyL_free (i := 15) (v := ?_) 0 rfl (by kernel_rfl) (by kernel_rfl) (by kernel_rfl) (by kernel_rfl) (by kernel_rfl) (fun _ _ _ h => h) (Or.inl ⟨by kernel_rfl, ?_⟩) (by assumption) ?_
                rotate_left
                · intro u _
                  try simp only [List.getElem_toArray, List.getElem_cons_succ, List.getElem_cons_zero]
                  go_simp
                  try with_reducible rfl
                try simp only [Act.put, List.setIfInBounds_toArray, List.set_cons_zero, List.set_cons_succ]
                refine Stg.wpAnyL_free (i := 16) (v := ?_) 0 rfl (by kernel_rfl) (by kernel_rfl) (by kernel_rfl) (by kernel_rfl) (by kernel_rfl) (fun _ _ _ h => h) (Or.inl ⟨by kernel_rfl, ?_⟩) (by assumption) ?_
                rotate_left
                · intro u _
                  try simp only [List.getElem_toArray, List.getElem_cons_succ, List.getElem_cons_zero]
                  go_simp
                  try with_reducible rfl
                try simp only [Act.put, List.setIfInBounds_toArray, List.set_cons_zero, List.set_cons_succ]
                refine Stg.wpAnyL_take (i := 17) (v := ?_) [20, 21, 22, 23, 24, 25, 26, 27, 28, 29, 30, 31, 32] 0 rfl (by kernel_rfl) (by kernel_rfl) (by kernel_rfl) (by kernel_rfl) (by kernel_rfl) (fun _ _ _ h => h) (Or.inl ⟨by kernel_rfl, ?_⟩) (by assumption) ?_
                rotate_left
                · intro u hSu
                  obtain ⟨⟨y0, y1, y2, y3, y4, y5, y6⟩, _⟩ := hSu
                  skip
                  try simp only [List.getElem_toArray, List.getElem_cons_succ, List.getElem_cons_zero]
                  go_simp
                  try with_reducible rfl
                try simp only [Act.put, List.setIfInBounds_toArray, List.set_cons_zero, List.set_cons_succ]
                refine Stg.wpAnyL_start (n' := 15) (l' := #[true, true, true, true, true, true, true, true, true, true, true, true, true, true, true, true, true, true, false, false, false, false, false, false, false, false, false, false, false, false, false, false, false]) (by kernel_rfl) (by kernel_rfl) ?_
                refine Stg.wpAnyL_free (i := 18) (v := ?_) 0 rfl (by kernel_rfl) (by kernel_rfl) (by kernel_rfl) (by kernel_rfl) (by kernel_rfl) (fun _ _ _ h => h) (Or.inl ⟨by kernel_rfl, ?_⟩) (by assumption) ?_
                rotate_left
                · intro u _
                  try simp only [List.getElem_toArray, List.getElem_cons_succ, List.getElem_cons_zero]
                  go_simp
                  try with_reducible rfl
                try simp only [Act.put, List.setIfInBounds_toArray, List.set_cons_zero, List.set_cons_succ]
                refine Stg.wpAnyL_one (i := 19) 0 rfl (by kernel_rfl) (by kernel_rfl) (fun K hK => ?_)
                try simp only [List.getElem_toArray, List.getElem_cons_succ, List.getElem_cons_zero]
                go_simp
                refine hno.out.mono ?_
                rintro e u3 ⟨rfl, rfl⟩
                refine hK.out _ _ ?_ (fun hHeld1 => ?_)
                · exact ⟨⟨ss.c 0 _ rfl, ss.c 1 _ rfl, ss.c 2 _ rfl, ss.c 3 _ rfl, ss.c 4 _ rfl, ss.c 5 _ rfl, ss.c 6 _ rfl⟩, trivial⟩
                clear hK K
                try simp only [Act.put, List.setIfInBounds_toArray, List.set_cons_zero, List.set_cons_succ]
                refine Stg.wpAnyL_one (i := 20) 0 rfl (by kernel_rfl) (by kernel_rfl) (fun K hK => ?_)
                try simp only [List.getElem_toArray, List.getElem_cons_succ, List.getElem_cons_zero]
                go_simp
                refine hov7.out.mono ?_
                rintro e u4 ⟨v1, rfl, ⟨a1, cc1, rfl, _⟩, hD4, k4⟩
                have ss2 := k4.blk ss (.inr hqq.out.2.2.2)
                have k5 := (Kp.refl (mm B [ca, cb, lb, sb, xb]) u2).drew.trans k4
                simp only [List.length_nil, List.length_cons, List.length_singleton]
                refine hK.out _ _ ?_ (fun hHeld2 => ?_)
                · exact ⟨⟨ss2.c 0 _ rfl, ss2.c 1 _ rfl, ss2.c 2 _ rfl, ss2.c 3 _ rfl, ss2.c 4 _ rfl, ss2.c 5 _ rfl, ss2.c 6 _ rfl⟩, trivial⟩
                clear hK K
                try simp only [Act.put, List.setIfInBounds_toArray, List.set_cons_zero, List.set_cons_succ]
                refine Stg.wpAnyL_start (n' := 12) (l' := #[true, true, true, true, true, true, true, true, true, true, true, true, true, true, true, true, true, true, true, true, true, false, false, false, false, false, false, false, false, false, false, false, false]) (by kernel_rfl) (by kernel_rfl) ?_
                refine Stg.wpAnyL_free (i := 21) (v := ?_) 0 rfl (by kernel_rfl) (by kernel_rfl) (by kernel_rfl) (by kernel_rfl) (by kernel_rfl) (fun _ _ _ h => h) (Or.inl ⟨by kernel_rfl, ?_⟩) (by assumption) ?_
                rotate_left
                · intro u _
                  try simp only [List.getElem_toArray, List.getElem_cons_succ, List.getElem_cons_zero]
                  go_simp
                  try with_reducible rfl
                try simp only [Act.put, List.setIfInBounds_toArray, List.set_cons_zero, List.set_cons_succ]
                refine Stg.wpAnyL_free (i := 22) (v := ?_) 0 rfl (by kernel_rfl) (by kernel_rfl) (by kernel_rfl) (by kernel_rfl) (by kernel_rfl) (fun _ _ _ h => h) (Or.inl ⟨by kernel_rfl, ?_⟩) (by assumption) ?_
                rotate_left
                · intro u _
                  try simp only [List.getElem_toArray, List.getElem_cons_succ, List.getElem_cons_zero]
                  go_simp
                  try with_reducible rfl
                try simp only [Act.put, List.setIfInBounds_toArray, List.set_cons_zero, List.set_cons_succ]
                refine Stg.wpAnyL_free (i := 23) (v := ?_) 0 rfl (by kernel_rfl) (by kernel_rfl) (by kernel_rfl) (by kernel_rfl) (by kernel_rfl) (fun _ _ _ h => h) (Or.inl ⟨by kernel_rfl, ?_⟩) (by assumption) ?_
                rotate_left
                · intro u _
                  try simp only [List.getElem_toArray, List.getElem_cons_succ, List.getElem_cons_zero]
                  go_simp
                  try with_reducible rfl
                try simp only [Act.put, List.setIfInBounds_toArray, List.set_cons_zero, List.set_cons_succ]
                refine Stg.wpAnyL_start (n' := 9) (l' := #[true, true, true, true, true, true, true, true, true, true, true, true, true, true, true, true, true, true, true, true, true, true, true, true, false, false, false, false, false, false, false, false, false]) (by kernel_rfl) (by kernel_rfl) ?_
                refine Stg.wpAnyL_free (i := 24) (v := ?_) 0 rfl (by kernel_rfl) (by kernel_rfl) (by kernel_rfl) (by kernel_rfl) (by kernel_rfl) (fun _ _ _ h => h) (Or.inl ⟨by kernel_rfl, ?_⟩) (by assumption) ?_
                rotate_left
                · intro u _
                  try simp only [List.getElem_toArray, List.getElem_cons_succ, List.getElem_cons_zero]
                  go_simp
                  try with_reducible rfl
                try simp only [Act.put, List.setIfInBounds_toArray, List.set_cons_zero, List.set_cons_succ]
                refine Stg.wpAnyL_free (i := 25) (v := undef) 0 rfl (by kernel_rfl) (by kernel_rfl) (by kernel_rfl) (by kernel_rfl) (by kernel_rfl) (fun _ _ _ h => h) (Or.inr ⟨by kernel_rfl, rfl⟩) (by assumption) ?_
                try simp only [Act.put, List.setIfInBounds_toArray, List.set_cons_zero, List.set_cons_succ]
                refine Stg.wpAnyL_free (i := 26) (v := undef) 0 rfl (by kernel_rfl) (by kernel_rfl) (by kernel_rfl) (by kernel_rfl) (by kernel_rfl) (fun _ _ _ h => h) (Or.inr ⟨by kernel_rfl, rfl⟩) (by assumption) ?_
                try simp only [Act.put, List.setIfInBounds_toArray, List.set_cons_zero, List.set_cons_succ]
                refine Stg.wpAnyL_start (n' := 6) (l' := #[true, true, true, true, true, true, true, true, true, true, true, true, true, true, true, true, true, true, true, true, true, true, true, true, true, true, true, false, false, false, false, false, false]) (by kernel_rfl) (by kernel_rfl) ?_
                refine Stg.wpAnyL_free (i := 27) (v := undef) 0 rfl (by kernel_rfl) (by kernel_rfl) (by kernel_rfl) (by kernel_rfl) (by kernel_rfl) (fun _ _ _ h => h) (Or.inr ⟨by kernel_rfl, rfl⟩) (by assumption) ?_
                try simp only [Act.put, List.setIfInBounds_toArray, List.set_cons_zero, List.set_cons_succ]
                refine Stg.wpAnyL_free (i := 28) (v := undef) 0 rfl (by kernel_rfl) (by kernel_rfl) (by kernel_rfl) (by kernel_rfl) (by kernel_rfl) (fun _ _ _ h => h) (Or.inr ⟨by kernel_rfl, rfl⟩) (by assumption) ?_
                try simp only [Act.put, List.setIfInBounds_toArray, List.set_cons_zero, List.set_cons_succ]
                refine Stg.wpAnyL_free (i := 29) (v := undef) 0 rfl (by kernel_rfl) (by kernel_rfl) (by kernel_rfl) (by kernel_rfl) (by kernel_rfl) (fun _ _ _ h => h) (Or.inr ⟨by kernel_rfl, rfl⟩) (by assumption) ?_
                try simp only [Act.put, List.setIfInBounds_toArray, List.set_cons_zero, List.set_cons_succ]
                refine Stg.wpAnyL_start (n' := 3) (l' := #[true, true, true, true, true, true, true, true, true, true, true, true, true, true, true, true, true, true, true, true, true, true, true, true, true, true, true, true, true, true, false, false, false]) (by kernel_rfl) (by kernel_rfl) ?_
                refine Stg.wpAnyL_free (i := 30) (v := undef) 0 rfl (by kernel_rfl) (by kernel_rfl) (by kernel_rfl) (by kernel_rfl) (by kernel_rfl) (fun _ _ _ h => h) (Or.inr ⟨by kernel_rfl, rfl⟩) (by assumption) ?_
                try simp only [Act.put, List.setIfInBounds_toArray, List.set_cons_zero, List.set_cons_succ]
                refine Stg.wpAnyL_free (i := 31) (v := undef) 0 rfl (by kernel_rfl) (by kernel_rfl) (by kernel_rfl) (by kernel_rfl) (by kernel_rfl) (fun _ _ _ h => h) (Or.inr ⟨by kernel_rfl, rfl⟩) (by assumption) ?_
                try simp only [Act.put, List.setIfInBounds_toArray, List.set_cons_zero, List.set_cons_succ]
                refine Stg.wpAnyL_free (i := 32) (v := ?_) 0 rfl (by kernel_rfl) (by kernel_rfl) (by kernel_rfl) (by kernel_rfl) (by kernel_rfl) (fun _ _ _ h => h) (Or.inl ⟨by kernel_rfl, ?_⟩) (by assumption) ?_
                rotate_left
                · intro u _
                  try simp only [List.getElem_toArray, List.getElem_cons_succ, List.getElem_cons_zero]
                  go_simp
                  try with_reducible rfl
                try simp only [Act.put, List.setIfInBounds_toArray, List.set_cons_zero, List.set_cons_succ]
                refine Stg.wpAnyL_done (by kernel_rfl) ?_ _
                try simp only [List.getElem_toArray, List.getElem_cons_succ, List.getElem_cons_zero]
                try simp only [Act.put, List.setIfInBounds_toArray, List.set_cons_zero, List.set_cons_succ]
                refine NoPanic.normal ?_
                have hS9 := hfin.out _ _ k5 hD4 rfl
                replace hS9 := Lib.hid hS9
                clear hHeld1 hHeld2 ss2 k4 hD4 hno hov7 hnb
                clear k5
                replace hend := Lib.hid (hend.out _ 0 (hS9.out))
                clear hHeld
                go_wp2_with fail
                go_roundg (N - (i + 1))
                case measure => omega
                case rel => exact ⟨i + 1, _, sent2, read2, t2, ma2, mb2, rfl, rfl, rfl, by go_num, by omega, by omega, hend.out⟩
          · have b3 : decide (0 ≤ ask) = false := by simpa using k3
            have b7 : (Kp.refl (mm B [ca, cb, lb, sb, xb]) u2) = (Kp.refl (mm B [ca, cb, lb, sb, xb]) u2) := rfl
            clear b7
            go_quiet (fail)
            have hS9 := Lib.hid (hS8.out.bel (bDrew (Below.refl u2.heap.size u2) nq))
            generalize u2.drewN nq = u9 at hS9 ⊢
            replace hend := Lib.hid (hend.out _ 0 hS9.out)
            go_wp2_with fail
            go_roundg (N - (i + 1))
            case measure => omega
            case rel => exact ⟨i + 1, _, sent2, read2, t2, ma2, mb2, rfl, rfl, rfl, by go_num, by omega, by omega, hend.out⟩
        · have b2 : decide (0 ≤ made) = false := by simpa using k2
          have b7 : (Kp.refl (mm B [ca, cb, lb, sb, xb]) u2) = (Kp.refl (mm B [ca, cb, lb, sb, xb]) u2) := rfl
          clear b7
          go_quiet (fail)
          have hS9 := Lib.hid (hS8.out.bel (bDrew (Below.refl u2.heap.size u2) nq))
          generalize u2.drewN nq = u9 at hS9 ⊢
          replace hend := Lib.hid (hend.out _ 0 hS9.out)
          go_wp2_with fail
          go_roundg (N - (i + 1))
          case measure => omega
          case rel => exact ⟨i + 1, _, sent2, read2, t2, ma2, mb2, rfl, rfl, rfl, by go_num, by omega, by omega, hend.out⟩
      · have b1 : decide (TD ≤ (i : Int)) = false := by simpa using k1
        have b7 : (Kp.refl (mm B [ca, cb, lb, sb, xb]) u2) = (Kp.refl (mm B [ca, cb, lb, sb, xb]) u2) := rfl
        clear b7
        go_quiet (fail)
        have hS9 := Lib.hid (hS8.out.bel (bDrew (Below.refl u2.heap.size u2) nq))
        generalize u2.drewN nq = u9 at hS9 ⊢
        replace hend := Lib.hid (hend.out _ 0 hS9.out)
        go_wp2_with fail
        go_roundg (N - (i + 1))
        case measure => omega
        case rel => exact ⟨i + 1, _, sent2, read2, t2, ma2, mb2, rfl, rfl, rfl, by go_num, by omega, by omega, hend.out⟩
    · obtain rfl : i = N := by omega
      have hbl : Below w.heap.size w wr := hS.k.bel (fun i hi => .inl (by rw [← hBw.out]; exact hi)) (Nat.le_refl _)
      replace hbl := Lib.hid hbl
      clear hS
      go_wp2_with fail
      refine (wakes21_c _).mono ?_
      rintro e w9 ⟨rfl, hb⟩
      have hF := Lib.hid (bNext hbl.out hb (Nat.le_refl _))
      clear hb hbl
      go_wp2_with fail
      go_ret
      exact ⟨rfl, hF.out⟩
end Go.Proofs.Ytifohibpcngakaa
