/- The judge: the reference's Kept, and the law: whether any record keeps the bound. -/
import Derived.Test.YtlnpommgfennhaaJ12
import Derived.Deep.CutRange
namespace Go.Proofs.Ytlnpommgfennhaa
open Go.ChangeShapes Go.WideShapes Go.ChangeAt Go.RowKit
set_option linter.unusedVariables false
set_option linter.unusedSimpArgs false
open BigFrame Bs Jd

namespace Jd
/-- Is the bound not kept between two packets? -/
def rviol (X : Nat → Nat → Int) (N : Nat) (Y : Nat → Nat → Int) (M : Nat) (h tn : Int) (i k : Nat) : Prop :=
  i ≤ k ∧ k < N ∧ X i 2 = tn ∧ X k 2 = tn ∧ boundI Y M tn (X i 0 - 1) (X k 0) h < 1000 * outI X tn (X i 0 - 1) (X k 0) N
def RKeptA (X : Nat → Nat → Int) (N : Nat) (Y : Nat → Nat → Int) (M : Nat) (h : Int) (s t tn : Int) (ok : Bool) : Prop :=
  (ok = true ∧ s = 0 ∧ t = 0 ∧ tn = 0 ∧ ∀ (m : Int) i k, 1 ≤ m → m ≤ 16 → ¬ rviol X N Y M h m i k) ∨
  (ok = false ∧ 1 ≤ tn ∧ tn ≤ 16 ∧ ∃ i k, rviol X N Y M h tn i k ∧ s = X i 0 - 1 ∧ t = X k 0 ∧
    (∀ (m : Int) i' k', 1 ≤ m → m < tn → ¬ rviol X N Y M h m i' k') ∧ (∀ i' k', i' < i → ¬ rviol X N Y M h tn i' k') ∧ ∀ k', k' < k → ¬ rviol X N Y M h tn i k')
def RKeptP (X : Nat → Nat → Int) (N : Nat) (Y : Nat → Nat → Int) (M : Nat) (h : Int) (w : World) (e : Ending) (w' : World) : Prop :=
  ∃ (s t tn : Int) (ok : Bool), e = .returned (.tuple #[.int .i64 s, .int .i64 t, .int .i64 tn, .bool ok, .int .i64 0]) ∧ RKeptA X N Y M h s t tn ok ∧ Below w.heap.size w w'
theorem pos_at {X : Nat → Nat → Int} {tn : Int} {N i : Nat} (hi : i < N) (h : X i 2 = tn) : ∃ q, q < ownN X tn N ∧ (ownL X tn N).getD q 0 = i := by
  induction N with
  | zero => omega
  | succ N ih =>
    by_cases e : i = N
    · subst e
      refine ⟨ownN X tn i, ?_, ?_⟩
      · unfold ownN; rw [ownL_in h]; simp
      · unfold ownN; rw [ownL_in h]; simp [List.getD]
    · obtain ⟨q, h1, h2⟩ := ih (by omega)
      obtain ⟨r, hr⟩ := ownL_pre X tn N 1
      refine ⟨q, ?_, ?_⟩
      · have := ownN_le X tn (show N ≤ N + 1 by omega); omega
      · rw [hr]
        unfold ownN at h1
        simp only [List.getD, List.getElem?_append_left h1]
        simpa [List.getD] using h2
theorem pos_lt {X : Nat → Nat → Int} {tn : Int} {N p q : Nat} (hpq : p < q) (hq : q < ownN X tn N) : (ownL X tn N).getD p 0 < (ownL X tn N).getD q 0 := by
  unfold ownN at hq
  have hp := List.pairwise_iff_getElem.1 (ownL_lt X tn N) p q (by omega) hq hpq
  simp only [List.getD, List.getElem?_eq_getElem hq, List.getElem?_eq_getElem (show p < (ownL X tn N).length by omega), Option.getD_some]
  exact hp
theorem pos_ten {X : Nat → Nat → Int} {tn : Int} {N q : Nat} (hq : q < ownN X tn N) : X ((ownL X tn N).getD q 0) 2 = tn := by
  unfold ownN at hq
  have hmem : (ownL X tn N).getD q 0 ∈ ownL X tn N := by
    simp only [List.getD, List.getElem?_eq_getElem hq, Option.getD_some]
    exact List.getElem_mem hq
  exact (ownL_mem hmem).2
theorem sum_le_out {Z : Nat → Nat → Int} (x s t : Int) (n : Nat) (h : ∀ q, q < n → 0 ≤ Z q 4) (hx : ∀ q, q < n → x ≤ Z q 0 → s < Z q 0 ∧ Z q 0 ≤ t) : sumI Z x n ≤ outO Z s t n := by
  induction n with
  | zero => exact Int.le_refl _
  | succ n ih =>
    have h1 := ih (fun q hq => h q (by omega)) (fun q hq => hx q (by omega))
    have h2 := h n (by omega)
    have h3 := hx n (by omega)
    unfold outO sumI
    split <;> split <;> omega
theorem outO_up {Z : Nat → Nat → Int} (s t : Int) (n : Nat) : ∀ d, (∀ q, q < n + d → 0 ≤ Z q 4) → outO Z s t n ≤ outO Z s t (n + d)
  | 0, _ => Int.le_refl _
  | d + 1, h => by
    have h1 := outO_up s t n d fun q hq => h q (by omega)
    have h2 := h (n + d) (by omega)
    show _ ≤ outO Z s t (n + d) + (if s < Z (n + d) 0 ∧ Z (n + d) 0 ≤ t then Z (n + d) 4 else 0)
    split <;> omega
section
variable {X : Nat → Nat → Int} {N : Nat} {Y : Nat → Nat → Int} {M : Nat} {h tn : Int}
theorem own_size (hok : checkOk N X M Y) : ∀ q, q < ownN X tn N → 0 ≤ ownX X tn N q 4 := fun q hq => by
  have h2 := sentB_iff.1 (hok.1 _ (own_in hq)).2.2
  unfold ownX
  omega
theorem viol_ref (hok : checkOk N X M Y) {i k : Nat} (hv : viols X N Y M h tn i k) : rviol X N Y M h tn ((ownL X tn N).getD i 0) ((ownL X tn N).getD k 0) := by
  obtain ⟨h1, h2, h3, h4, h5⟩ := hv
  have hs := own_sorted tn (sorted_of hok.1)
  refine ⟨?_, own_in h2, pos_ten h1, pos_ten h2, ?_⟩
  · by_cases e : i = k
    · subst e; exact Nat.le_refl _
    · exact Nat.le_of_lt (pos_lt (by omega) h2)
  · show boundI Y M tn (ownX X tn N i 0 - 1) (ownX X tn N k 0) h < 1000 * outI X tn (ownX X tn N i 0 - 1) (ownX X tn N k 0) N
    rw [outI_own]
    have e1 := sum_le_out (Z := ownX X tn N) (ownX X tn N i 0) (ownX X tn N i 0 - 1) (ownX X tn N k 0) (k + 1) (fun q hq => own_size hok q (by omega)) (fun q hq hx => ⟨by omega, hs q k (by omega) h2⟩)
    have e2 := outO_up (Z := ownX X tn N) (ownX X tn N i 0 - 1) (ownX X tn N k 0) (k + 1) (ownN X tn N - (k + 1)) (fun q hq => own_size hok q (by omega))
    rw [show k + 1 + (ownN X tn N - (k + 1)) = ownN X tn N by omega] at e2
    omega
theorem ref_viol (hok : checkOk N X M Y) {I K : Nat} (hv : rviol X N Y M h tn I K) : ∃ i k l, I = (ownL X tn N).getD i 0 ∧ K = (ownL X tn N).getD k 0 ∧ i < ownN X tn N ∧ k < ownN X tn N ∧ viols X N Y M h tn i l ∧ ownX X tn N l 0 = ownX X tn N k 0 := by
  obtain ⟨h1, h2, h3, h4, h5⟩ := hv
  have hs := own_sorted tn (sorted_of hok.1)
  obtain ⟨i, hi, rfl⟩ := pos_at (show I < N by omega) h3
  obtain ⟨k, hk, rfl⟩ := pos_at h2 h4
  have hik : i ≤ k := by
    refine Classical.byContradiction fun q => ?_
    have := pos_lt (X := X) (tn := tn) (show k < i by omega) hi
    omega
  change boundI Y M tn (ownX X tn N i 0 - 1) (ownX X tn N k 0) h < 1000 * outI X tn (ownX X tn N i 0 - 1) (ownX X tn N k 0) N at h5
  rw [outI_own] at h5
  obtain ⟨l, hl1, hl2, hl3, hl4, hl5⟩ := last_sorted hs (ownX X tn N k 0) k hk (Int.le_refl _)
  have el := hs k l hl1 hl2
  have e : ownX X tn N l 0 = ownX X tn N k 0 := by omega
  refine ⟨i, k, l, rfl, rfl, hi, hk, ⟨hi, hl2, by omega, ?_, ?_⟩, e⟩
  · rw [e]; exact hl4
  · rw [e]
    have e1 := outO_far (Z := ownX X tn N) (ownX X tn N i 0 - 1) (ownX X tn N k 0) (l + 1) (ownN X tn N - (l + 1)) (fun j h3 h4 => hl5 j (by omega) (by omega))
    rw [show l + 1 + (ownN X tn N - (l + 1)) = ownN X tn N by omega] at e1
    have e2 := outO_le (Z := ownX X tn N) (ownX X tn N i 0 - 1) (ownX X tn N k 0) (ownX X tn N i 0) (l + 1) (fun q hq => own_size hok q (by omega)) (fun q hq h6 => by omega)
    omega
/-- The program's answer and the document's are one. -/
theorem kept_same (hok : checkOk N X M Y) {s t tn s2 t2 tn2 : Int} {o o2 : Bool} (hA : KeptA X N Y M h s t tn o) (hR : RKeptA X N Y M h s2 t2 tn2 o2) : s = s2 ∧ t = t2 ∧ tn = tn2 ∧ o = o2 := by
  rcases hA with ⟨rfl, rfl, rfl, rfl, hA⟩ | ⟨rfl, h1, h2, i, k, hv, rfl, rfl, h3, h4, h5⟩
  · rcases hR with ⟨rfl, rfl, rfl, rfl, _⟩ | ⟨rfl, g1, g2, I, K, hr, _⟩
    · exact ⟨rfl, rfl, rfl, rfl⟩
    · obtain ⟨i, k, l, _, _, _, _, hv, _⟩ := ref_viol hok hr
      exact absurd hv (hA _ _ _ g1 g2)
  · rcases hR with ⟨rfl, rfl, rfl, rfl, hR⟩ | ⟨rfl, g1, g2, I, K, hr, rfl, rfl, g3, g4, g5⟩
    · exact absurd (viol_ref hok hv) (hR _ _ _ h1 h2)
    · obtain ⟨i1, k1, l, hI, hK, hi1, hk1, hv1, hl⟩ := ref_viol hok hr
      have hv2 := viol_ref hok hv
      have e1 : tn = tn2 := by
        have a1 : ¬ tn < tn2 := fun q => g3 _ _ _ h1 q hv2
        have a2 : ¬ tn2 < tn := fun q => h3 _ _ _ g1 q hv1
        omega
      subst e1
      have e2 : i = i1 := by
        have a1 : ¬ i1 < i := fun q => h4 _ _ q hv1
        have a2 : ¬ i < i1 := fun q => by
          have := pos_lt (X := X) (tn := tn) q hi1
          exact g4 _ _ (by omega) hv2
        omega
      subst e2
      subst hI hK
      have hs := own_sorted tn (sorted_of hok.1)
      have a1 : ¬ k < k1 := fun q => by
        have := pos_lt (X := X) (tn := tn) q hk1
        exact g5 _ this hv2
      have a2 : ¬ l < k := fun q => h5 _ q hv1
      have a3 := hs k1 k (by omega) hv.2.1
      have a4 := hs k l (by omega) hv1.2.1
      refine ⟨rfl, ?_, rfl, rfl⟩
      show ownX X tn N k 0 = ownX X tn N k1 0
      omega
end
end Jd

set_option maxRecDepth 100000 in
set_option maxHeartbeats 2000000 in
theorem rkept_no (h : Int) (a a2 : Option Addr) (b off N c b2 off2 M c2 : Nat) (X Y : Nat → Nat → Int) (w : World) (T : IntRows w a b off N 6 X) (T2 : IntRows w a2 b2 off2 M 4 Y) (hN : N ≤ 1000) (hM : M ≤ 1000) (hno : ¬ checkOk N X M Y) :
    Calls Try.prog 11 #[.slice a N c, .slice a2 M c2, .int .i64 h] w fun e w' => e = .returned (.tuple #[.int .i64 0, .int .i64 0, .int .i64 0, .bool false, .int .i64 2]) ∧ Below w.heap.size w w' := by
  have hck := rcheck30_c false a a2 b off N c b2 off2 M c2 X Y w T T2 (by omega) (by omega) ⟨(fun q => by cases q), fun q => absurd q hno⟩
  clear T T2 hno
  go_enter Try.func11, Try.ntmps11
  go_wp2_with fail
  refine hck.mono ?_
  rintro e u ⟨rfl, hu⟩
  go_wp2_with fail
  exact bodyPost_ret (v := .tuple #[.int .i64 0, .int .i64 0, .int .i64 0, .bool false, .int .i64 2]) (by simp [results, Try.results11, go_sem]) rfl ⟨rfl, hu⟩

set_option maxRecDepth 100000 in
set_option maxHeartbeats 8000000 in
theorem rkept_yes (h : Int) (a a2 : Option Addr) (b off N c b2 off2 M c2 : Nat) (X Y : Nat → Nat → Int) (w : World) (T : IntRows w a b off N 6 X) (T2 : IntRows w a2 b2 off2 M 4 Y) (hN : N ≤ 1000) (hM : M ≤ 1000) (hok : checkOk N X M Y) :
    Calls Try.prog 11 #[.slice a N c, .slice a2 M c2, .int .i64 h] w (RKeptP X N Y M h w) := by
  have hck := rcheck30_c true a a2 b off N c b2 off2 M c2 X Y w T T2 (by omega) (by omega) ⟨fun _ => hok, fun _ => rfl⟩
  have hX : ∀ i, i < N → 0 ≤ X i 4 ∧ X i 4 ≤ 1500 := fun i hi => by
    have h2 := sentB_iff.1 (hok.1 i hi).2.2
    omega
  have hX0 : ∀ i, i < N → 1 ≤ X i 0 ∧ X i 0 ≤ 1099511627776 := fun i hi => by
    have h1 := hok.1 i hi
    have h2 := sentB_iff.1 h1.2.2
    omega
  have hY : YBd Y M := fun i hi => by
    have h2 := forceB_iff.1 (hok.2 i hi).2.2
    omega
  have ho := fun W (hW : Below w.heap.size w W) tn s t => rout_c a b off N c X tn s t W (T.bel hW) hN hX
  have hob := fun tn s t => outI_bd (X := X) tn s t hX N (Nat.le_refl _)
  have hbo := fun W (hW : Below w.heap.size w W) tn s t => rbound_c a2 b2 off2 M c2 Y tn s t h W (T2.bel hW) hM hY
  have hNi : (N : Int) ≤ 1000 := by omega
  clear hok T2 hX hY
  replace hX0 := Lib.hid hX0
  replace ho := Lib.hid ho
  replace hob := Lib.hid hob
  replace hbo := Lib.hid hbo
  replace T := Lib.hid T
  go_enter Try.func11, Try.ntmps11
  go_wp2_with fail
  refine hck.mono ?_
  rintro e u0 ⟨rfl, hu0⟩
  clear hck
  go_wp2_with fail
  go_loopw [11] (fun s11 w1 => ∃ m : Int, 1 ≤ m ∧ m ≤ 17 ∧ s11 = .int .i64 m ∧ Below w.heap.size w w1 ∧ Aside (∀ (q : Int) i k, 1 ≤ q → q < m → ¬ rviol X N Y M h q i k)) (fun s11 _ => (17 - intOf s11).toNat)
  case atStart => exact ⟨1, by omega, by omega, rfl, hu0, fun q i k h1 h2 => by omega⟩
  case round =>
    obtain ⟨m, hm1, hm2, rfl, hB1, A1⟩ := hrel
    by_cases hm : m ≤ 16
    · go_wp2_with fail
      obtain ⟨W1, rfl⟩ : ∃ W1, W1 = wr := ⟨_, rfl⟩
      go_loopw [12] (fun s12 w2 => ∃ i : Nat, i ≤ N ∧ s12 = .int .i64 (i : Nat) ∧ Below w.heap.size w w2 ∧ Aside (∀ i' k', i' < i → ¬ rviol X N Y M h m i' k')) (fun s12 _ => N - (intOf s12).toNat)
      case atStart => exact ⟨0, Nat.zero_le _, rfl, hB1, fun i' k' q => absurd q (Nat.not_lt_zero _)⟩
      case round =>
        obtain ⟨i, hi, rfl, hB2, A2⟩ := hrel
        by_cases hlt : i < N
        · have hltz : (i : Int) < (N : Int) := by omega
          go_wp2_with fail
          obtain ⟨W2, rfl⟩ : ∃ W2, W2 = wr := ⟨_, rfl⟩
          go_loopw [13] (fun s13 w3 => ∃ k : Nat, i ≤ k ∧ k ≤ N ∧ s13 = .int .i64 (k : Nat) ∧ Below w.heap.size w w3 ∧ Aside (∀ k', k' < k → ¬ rviol X N Y M h m i k')) (fun s13 _ => N - (intOf s13).toNat)
          case atStart => exact ⟨i, Nat.le_refl _, hi, rfl, hB2, fun k' q hv => by have := hv.1; omega⟩
          case round =>
            obtain ⟨k, hik, hk, rfl, hB3, A3⟩ := hrel
            by_cases hlk : k < N
            · have hlkz : (k : Int) < (N : Int) := by omega
              obtain rfl := T.out.ha (by omega)
              have T3 := T.out.bel hB3
              have x0 := T3.c0 i hlt (by omega)
              have x2 := T3.c i 2 hlt (by omega)
              have y0 := T3.c0 k hlk (by omega)
              have y2 := T3.c k 2 hlk (by omega)
              clear T3
              by_cases q1 : X i 2 = m
              · have e1 : (X i 2 != m) = false := by simp [q1]
                by_cases q2 : X k 2 = m
                · have e2 : (X k 2 != m) = false := by simp [q2]
                  obtain ⟨r1, r2⟩ := hX0.out i hlt
                  obtain ⟨r3, r4⟩ := hX0.out k hlk
                  have hw := IntWalk.i64_in (X i 0 - 1) (by omega)
                  have hob1 := hob.out m (X i 0 - 1) (X k 0)
                  obtain ⟨o1, o2⟩ := hob1
                  have hoc := fun n => ho.out (wr.drewN n) (bDrew hB3 n) m (X i 0 - 1) (X k 0)
                  have hbc := fun n => hbo.out (wr.drewN n) (bDrew hB3 n) m (X i 0 - 1) (X k 0)
                  have hviol : rviol X N Y M h m i k ↔ boundI Y M m (X i 0 - 1) (X k 0) h < 1000 * outI X m (X i 0 - 1) (X k 0) N := ⟨fun q => q.2.2.2.2, fun q => ⟨hik, hlk, q1, q2, q⟩⟩
                  obtain ⟨O, hO⟩ : ∃ O, outI X m (X i 0 - 1) (X k 0) N = O := ⟨_, rfl⟩
                  obtain ⟨Bd, hBd⟩ : ∃ Bd, boundI Y M m (X i 0 - 1) (X k 0) h = Bd := ⟨_, rfl⟩
                  rw [hO] at o1 o2 hviol
                  rw [hBd] at hviol
                  simp only [hO] at hoc
                  simp only [hBd] at hbc
                  replace q1 := Lib.hid q1
                  replace q2 := Lib.hid q2
                  replace hoc := Lib.hid hoc
                  replace hbc := Lib.hid hbc
                  clear hO hBd
                  by_cases hv : Bd < 1000 * O
                  · have hA : RKeptA X N Y M h (X i 0 - 1) (X k 0) m false := .inr ⟨rfl, hm1, hm, i, k, hviol.2 hv, rfl, rfl, A1.out, A2.out, A3.out⟩
                    replace hA := Lib.hid hA
                    clear hviol
                    go_wp2_with fail
                    go_big_quiet (fail)
                    clear hw
                    go_wp2_with fail
                    refine (hoc.out nq).mono ?_
                    rintro e w' ⟨rfl, rfl⟩
                    go_wp2_with fail
                    refine (hbc.out nq).mono ?_
                    rintro e w' ⟨rfl, rfl⟩
                    go_wp2_with fail
                    exact bodyPost_ret (v := .tuple #[.int .i64 (X i 0 - 1), .int .i64 (X k 0), .int .i64 m, .bool false, .int .i64 0]) (by simp [results, Try.results11, go_sem]) rfl ⟨_, _, _, _, rfl, hA.out, bDrew hB3 nq⟩
                  · have hno : ∀ k', k' < k + 1 → ¬ rviol X N Y M h m i k' := fun k' hk' hr => by
                      by_cases e : k' = k
                      · subst e; exact hv (hviol.1 hr)
                      · exact A3.out k' (by omega) hr
                    replace hno := Lib.hid hno
                    clear hviol
                    go_wp2_with fail
                    go_big_quiet (fail)
                    clear hw
                    go_wp2_with fail
                    refine (hoc.out nq).mono ?_
                    rintro e w' ⟨rfl, rfl⟩
                    go_wp2_with fail
                    refine (hbc.out nq).mono ?_
                    rintro e w' ⟨rfl, rfl⟩
                    go_wp2_with fail
                    go_roundw
                    case rel => exact ⟨k + 1, by omega, by omega, by go_num, bDrew hB3 nq, (show Aside _ from hno.out)⟩
                    case measure => simp [intOf]; omega
                · have e2 : (X k 2 != m) = true := by simpa using q2
                  have hno : ∀ k', k' < k + 1 → ¬ rviol X N Y M h m i k' := fun k' hk' hr => by
                    by_cases e : k' = k
                    · subst e; exact q2 hr.2.2.2.1
                    · exact A3.out k' (by omega) hr
                  replace hno := Lib.hid hno
                  replace q1 := Lib.hid q1
                  replace q2 := Lib.hid q2
                  go_wp2_with fail
                  go_roundw
                  case rel => exact ⟨k + 1, by omega, by omega, by go_num, hB3, (show Aside _ from hno.out)⟩
                  case measure => simp [intOf]; omega
              · have e1 : (X i 2 != m) = true := by simpa using q1
                have hno : ∀ k', k' < k + 1 → ¬ rviol X N Y M h m i k' := fun k' hk' hr => q1 hr.2.2.1
                replace hno := Lib.hid hno
                replace q1 := Lib.hid q1
                go_wp2_with fail
                go_roundw
                case rel => exact ⟨k + 1, by omega, by omega, by go_num, hB3, (show Aside _ from hno.out)⟩
                case measure => simp [intOf]; omega
            · have hlkz : ¬ (k : Int) < (N : Int) := by omega
              have hno : ∀ i' k', i' < i + 1 → ¬ rviol X N Y M h m i' k' := fun i' k' h1 hv => by
                by_cases e : i' = i
                · subst e; have := hv.2.1; exact A3.out k' (by omega) hv
                · exact A2.out i' k' (by omega) hv
              replace hno := Lib.hid hno
              go_wp2_with fail
              go_roundw
              case rel => exact ⟨i + 1, by omega, by go_num, hB3, (show Aside _ from hno.out)⟩
              case measure => simp [intOf]; omega
        · have hltz : ¬ (i : Int) < (N : Int) := by omega
          have hno : ∀ (q : Int) i' k, 1 ≤ q → q < m + 1 → ¬ rviol X N Y M h q i' k := fun q i' k h1 h2 hv => by
            by_cases e : q = m
            · subst e; have h3 := hv.1; have h4 := hv.2.1; exact A2.out i' k (by omega) hv
            · exact A1.out q i' k h1 (by omega) hv
          replace hno := Lib.hid hno
          go_wp2_with fail
          go_roundw
          case rel => exact ⟨m + 1, by omega, by omega, by rfl, hB2, (show Aside _ from hno.out)⟩
          case measure => simp [intOf]; omega
    · go_wp2_with fail
      refine bodyPost_ret (v := .tuple #[.int .i64 0, .int .i64 0, .int .i64 0, .bool true, .int .i64 0]) (by simp [results, Try.results11, go_sem]) rfl ⟨0, 0, 0, true, rfl, .inl ⟨rfl, rfl, rfl, rfl, fun q i k h1 h2 => A1.out q i k h1 (by omega)⟩, hB1⟩

set_option maxRecDepth 100000 in
set_option maxHeartbeats 4000000 in
theorem judgeKept_walk (w : World) (v0 : Value) (a0 : XT_LSent) (v1 : Value) (a1 : XT_LForce) (a2 : Int) (w0 : Is_LSent w v0 a0) (w1 : Is_LForce w v1 a1) (w2 : (Lit.int .i64 a2).wf = true) :
    Calls Try.prog 3 #[v0, v1, .int .i64 a2] w fun e w' => e = .returned (.bool true) ∧ Below w.heap.size w w' := by
  obtain ⟨rfl, _, _, T, _⟩ := w0
  obtain ⟨rfl, _, _, T2, _⟩ := w1
  obtain ⟨a, b, off, N, c, X⟩ := a0
  obtain ⟨b1, b2, off2, M, c2, Y⟩ := a1
  simp only at T T2
  show Calls Try.prog 3 #[.slice a N c, .slice b1 M c2, .int .i64 a2] w fun e w' => e = .returned (.bool true) ∧ Below w.heap.size w w'
  clear w2
  by_cases hg : 60 < N ∨ 60 < M
  · have hwk := wakes30_c w
    have g := great30_yes a b1 N c M c2 w hg
    clear T T2
    replace hg := Lib.hid hg
    go_enter Try.func3, Try.ntmps3
    go_wp2_with fail
    refine g.mono ?_
    rintro e w' ⟨rfl, rfl⟩
    go_wp2_with fail
    refine hwk.mono ?_
    rintro e w' ⟨rfl, hB⟩
    go_wp2_with fail
    go_ret
    exact ⟨rfl, hB⟩
  have g := great30_no a b1 N c M c2 w (by omega) (by omega)
  have hN : N ≤ 60 := by omega
  have hM : M ≤ 60 := by omega
  clear hg
  by_cases hok : checkOk N X M Y
  · have hk := jkept_yes a2 a b1 b off N c b2 off2 M c2 X Y w T T2 (by omega) (by omega) hok
    have hr := fun W (hW : Below w.heap.size w W) => rkept_yes a2 a b1 b off N c b2 off2 M c2 X Y W (T.bel hW) (T2.bel hW) (by omega) (by omega) hok
    replace hok := Lib.hid hok
    replace hr := Lib.hid hr
    clear T T2
    go_enter Try.func3, Try.ntmps3
    go_wp2_with fail
    refine g.mono ?_
    rintro e w' ⟨rfl, rfl⟩
    go_wp2_with fail
    refine hk.mono ?_
    rintro e u ⟨s, t, tn, o, rfl, hA, hB⟩
    have hr2 := hr.out u hB
    replace hA := Lib.hid hA
    clear hk g
    go_wp2_with fail
    refine hr2.mono ?_
    rintro e u2 ⟨s2, t2, tn2, o2, rfl, hR, hB2⟩
    obtain ⟨rfl, rfl, rfl, rfl⟩ := kept_same hok.out hA.out hR
    have hB3 := bNext hB hB2 (Nat.le_refl _)
    have hwk := wakes30_c u2
    have e1 : (o == o) = true := by simp
    clear hA hR hr2 hB hB2
    go_wp2_with fail
    refine hwk.mono ?_
    rintro e w' ⟨rfl, hB⟩
    go_wp2_with fail
    go_ret
    exact ⟨rfl, bNext hB3 hB (Nat.le_refl _)⟩
  · have hk := jkept_no a2 a b1 b off N c b2 off2 M c2 X Y w T T2 (by omega) (by omega) hok
    have hr := fun W (hW : Below w.heap.size w W) => rkept_no a2 a b1 b off N c b2 off2 M c2 X Y W (T.bel hW) (T2.bel hW) (by omega) (by omega) hok
    replace hok := Lib.hid hok
    replace hr := Lib.hid hr
    clear T T2
    go_enter Try.func3, Try.ntmps3
    go_wp2_with fail
    refine g.mono ?_
    rintro e w' ⟨rfl, rfl⟩
    go_wp2_with fail
    refine hk.mono ?_
    rintro e u ⟨rfl, hB⟩
    have hr2 := hr.out u hB
    clear hk g
    go_wp2_with fail
    refine hr2.mono ?_
    rintro e u2 ⟨rfl, hB2⟩
    have hB3 := bNext hB hB2 (Nat.le_refl _)
    have hwk := wakes30_c u2
    clear hr2 hB hB2
    go_wp2_with fail
    refine hwk.mono ?_
    rintro e w' ⟨rfl, hB⟩
    go_wp2_with fail
    go_ret
    exact ⟨rfl, bNext hB3 hB (Nat.le_refl _)⟩
end Go.Proofs.Ytlnpommgfennhaa
