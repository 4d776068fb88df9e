/- Leases: what AgentReports says. -/
import Derived.Test.YtldknmcnmhdgfaaG21
namespace Go.Proofs.Ytldknmcnmhdgfaa
open Go.ChangeShapes Go.WideShapes Go.ChangeAt Go.RowKit Go.Deep
set_option linter.unusedVariables false
set_option linter.unusedSimpArgs false
open BigFrame Bs Ag

namespace Ag
def aR (sz no : Int) : St := as_ 1 1000 3 2 sz 0 no false
def rpL (s : Int) (cl : Bool) : List Value := [.int .i8 5, .int .i64 0, .int .i64 0, .int .i64 0, .int .i64 0, .int .i64 0, .int .i64 1, .int .i64 3, .int .i64 9, .int .i64 0, .int .i64 s, .bool cl, .slice none 0 0]
theorem rp_eq {sz no s : Int} {x : Ls} {cl : Bool} (h1 : x.id = 9) (h2 : x.size - x.left = s) : repL (aR sz no) x cl = rpL s cl := by
  unfold repL rpL
  rw [h1, h2]; rfl
/-- So much was spent and is reported. -/
def RS (m : Nat → Prop) (a : Nat) (sz no told sum : Int) (w : World) : Prop :=
  (∃ q g c x, AgL m w a (aR sz no) q g c x ∧ x.id = 9 ∧ x.ten = 2 ∧ x.til = 1000000 ∧ x.left = sz - sum ∧ x.size = sz ∧ x.told = told) ∨ (∃ p c, AgE m w a (aR sz no) p c ∧ sum = sz ∧ told = sz)
def SpQ (m : Nat → Prop) (a : Nat) (sz sum n : Int) (w : World) (e : Ending) (w' : World) : Prop :=
  ∃ k s2, e = .returned (.int .i64 k) ∧ RS m a sz 1 sum s2 w' ∧ Kp m w w' ∧ sum ≤ s2 ∧ s2 ≤ sz ∧ ((k = 0 ∧ s2 = sum + n) ∨ (k ≠ 0 ∧ s2 = sum))
def RpQ (m : Nat → Prop) (a : Nat) (sz told sum : Int) (w : World) (e : Ending) (w' : World) : Prop :=
  ((told < sum ∧ ∃ r c, e = .returned (.slice (some ⟨r, 0, none⟩) 1 c) ∧ Blk w' r (rpL sum false)) ∨ (told = sum ∧ e = .returned (.slice none 0 0))) ∧ RS m a sz 1 sum sum w' ∧ (sum < sz ∨ ∃ p c, AgE m w' a (aR sz 1) p c) ∧ Kp m w w'
def ClQ (m : Nat → Prop) (a : Nat) (sz sum : Int) (w : World) (e : Ending) (w' : World) : Prop :=
  ((sum < sz ∧ ∃ r c, e = .returned (.slice (some ⟨r, 0, none⟩) 1 c) ∧ Blk w' r (rpL sum true) ∧ ¬ m r) ∨ (sum = sz ∧ e = .returned (.slice none 0 0))) ∧ (∃ p c, AgE m w' a (aR sz 1) p c) ∧ Kp m w w'
end Ag
theorem spQ {m : Nat → Prop} {a : Nat} {sz no sum : Int} {w : World} (h : RS m a sz no sum sum w) (n : Int) (hno : no ≤ 1) (hs : 0 ≤ sum ∧ sum ≤ sz ∧ sz ≤ 1000000) :
    Calls Try.prog 14 #[.pointer (some ⟨a, 0, none⟩), .int .i64 2, .int .i64 n, .int .i64 1] w (SpQ m a sz sum n w) := by
  rcases h with ⟨q, g, c, x, h, h1, h2, h3, h4, h5, h6⟩ | ⟨p, c, h, h1, h2⟩
  · have hm : ¬ x.til ≤ max (aR sz no).no 1 := by show ¬ x.til ≤ max no 1; omega
    by_cases hb : 0 ≤ n ∧ n ≤ x.left
    · have := spend_ok h n 1 hm (by omega) hb.1 hb.2
      unfold aR at this
      rw [as_no hno, h2] at this
      exact this.mono fun e w' ⟨he, k1, k2⟩ => ⟨0, sum + n, he, .inl ⟨q, g, c, _, k1, h1, by first | exact h2 | rfl, h3, by show x.left - n = sz - (sum + n); omega, h5, h6⟩, k2, by omega, by omega, .inl ⟨rfl, rfl⟩⟩
    · have := spend_no h n 1 hm (by omega) (by omega)
      unfold aR at this
      rw [as_no hno, h2] at this
      exact this.mono fun e w' ⟨he, k1, k2⟩ => ⟨_, sum, he, .inl ⟨q, g, c, _, k1, h1, h2, h3, h4, h5, h6⟩, k2, by omega, by omega, .inr ⟨spL_ne (by omega), rfl⟩⟩
  · have := spend_E 2 n 1 (h.at 1)
    unfold aR at this
    rw [as_no hno] at this
    refine this.mono fun e w' ⟨p2, c2, he, k1, k2⟩ => ⟨_, sum, he, .inr ⟨p2, c2, k1, h1, h2⟩, k2, by omega, by omega, ?_⟩
    unfold spE
    by_cases hb : n = 0
    · subst hb
      exact .inl ⟨rfl, by omega⟩
    · refine .inr ⟨?_, rfl⟩
      by_cases hn : n < 0
      · rw [if_pos hn]; decide
      · rw [if_neg hn, if_pos (by omega)]; decide
theorem rpQ {m : Nat → Prop} {a : Nat} {sz told sum : Int} {w : World} (h : RS m a sz 1 told sum w) (hs : 0 ≤ told ∧ told ≤ sum ∧ sum ≤ sz ∧ sz ≤ 1000000) :
    Calls Try.prog 15 #[.pointer (some ⟨a, 0, none⟩), .int .i64 1] w (RpQ m a sz told sum w) := by
  rcases h with ⟨q, g, c, x, h, h1, h2, h3, h4, h5, h6⟩ | ⟨p, c, h, h1, h2⟩
  · have hm : ¬ x.til ≤ max (aR sz 1).no 1 := by show ¬ x.til ≤ max 1 1; omega
    have := reports_L h 1 hm (by omega) (by omega)
    unfold aR at this
    rw [as_no (Int.le_refl _)] at this
    refine this.mono fun e w' ⟨r1, r2, r3⟩ => ⟨?_, ?_, ?_, r3⟩
    · by_cases ht : x.told < x.size - x.left
      · rw [if_pos ht] at r1
        obtain ⟨r, c', he, hb, _⟩ := r1
        rw [show repL (as_ 1 1000 3 2 sz 0 1 false) x false = rpL sum false from rp_eq (sz := sz) (no := 1) h1 (by omega)] at hb
        exact .inl ⟨by omega, r, c', he, hb⟩
      · rw [if_neg ht] at r1
        exact .inr ⟨by omega, r1⟩
    · by_cases hl : x.left = 0
      · rw [if_pos hl] at r2
        exact .inr ⟨_, _, r2, by omega, by omega⟩
      · rw [if_neg hl] at r2
        exact .inl ⟨q, g, c, _, r2, h1, h2, h3, h4, h5, by show x.size - x.left = sum; omega⟩
    · by_cases hl : x.left = 0
      · rw [if_pos hl] at r2
        exact .inr ⟨_, _, r2⟩
      · exact .inl (by omega)
  · have := reports_E 1 (h.at 1)
    unfold aR at this
    rw [as_no (Int.le_refl _)] at this
    exact this.mono fun e w' ⟨p2, c2, he, k1, k2⟩ => ⟨.inr ⟨by omega, he⟩, .inr ⟨p2, c2, k1, h1, by omega⟩, .inr ⟨p2, c2, k1⟩, k2⟩
theorem clQ {m : Nat → Prop} {a : Nat} {sz no sum : Int} {w : World} (h : RS m a sz no sum sum w) (hno : no ≤ 1) (h0 : sum < sz ∨ ∃ p c, AgE m w a (aR sz no) p c) (hs : 0 ≤ sum ∧ sum ≤ sz ∧ sz ≤ 1000000) :
    Calls Try.prog 16 #[.pointer (some ⟨a, 0, none⟩), .int .i64 2, .int .i64 1] w (ClQ m a sz sum w) := by
  have hE : ∀ p c, AgE m w a (aR sz no) p c → sum = sz → Calls Try.prog 16 #[.pointer (some ⟨a, 0, none⟩), .int .i64 2, .int .i64 1] w (ClQ m a sz sum w) := fun p c h h1 => by
    have := close_E h 2 1
    unfold aR at this
    rw [as_no hno] at this
    exact this.mono fun e w' ⟨p2, c2, he, k1, k2⟩ => ⟨.inr ⟨h1, he⟩, ⟨p2, c2, k1⟩, k2⟩
  rcases h with ⟨q, g, c, x, h, h1, h2, h3, h4, h5, h6⟩ | ⟨p, c, h, h1, h2⟩
  · by_cases hlt : sum < sz
    · have hm : ¬ x.til ≤ max (aR sz no).no 1 := by show ¬ x.til ≤ max no 1; omega
      have := close_L h 1 hm (by omega)
      unfold aR at this
      rw [as_no hno, h2] at this
      refine this.mono fun e w' ⟨⟨r, c', he, hb, hm2⟩, r2, r3⟩ => ?_
      rw [show repL (as_ 1 1000 3 2 sz 0 1 false) x true = rpL sum true from rp_eq (sz := sz) (no := 1) h1 (by omega)] at hb
      exact ⟨.inl ⟨hlt, r, c', he, hb, hm2⟩, r2, r3⟩
    · rcases h0 with h0 | ⟨p, c, h0⟩
      · exact absurd h0 hlt
      · exact hE p c h0 (by omega)
  · exact hE p c h h1

set_option maxRecDepth 100000 in
set_option maxHeartbeats 4000000 in
theorem agentReports_great (w : World) (a0 : Int) (p1 : Option Addr) (N c1 : Nat) (hg : 60 < N) : Calls Try.prog 5 #[.int .i64 a0, .slice p1 N c1] w fun e w' => e = .returned (.bool true) ∧ Below w.heap.size w w' := by
  have h1i : (60 : Int) < (N : Int) := by omega
  clear hg
  go_enter Try.func5, Try.ntmps5
  go_wp2_with fail
  refine (wakes22_c _).mono ?_
  rintro e w1 ⟨rfl, hb⟩
  go_wp2_with fail
  go_ret
  exact ⟨rfl, hb⟩

set_option maxRecDepth 100000 in
set_option maxHeartbeats 40000000 in
theorem agentReports_some (w : World) (a0 : Int) (f : Nat → Int) (p1 : Option Addr) (N c1 : Nat) (hN : N ≤ 60) (hf : 0 < N → ∃ b off, p1 = some ⟨b, off, none⟩ ∧ b < w.heap.size ∧ ∀ i, i < N → w.cell? ⟨b, off + i, none⟩ = some (.int .i64 (f i))) : Calls Try.prog 5 #[.int .i64 a0, .slice p1 N c1] w fun e w' => e = .returned (.bool true) ∧ Below w.heap.size w w' := by
  have hNi : (N : Int) ≤ 60 := by omega
  obtain ⟨SZ, ⟨Z1, Z2⟩, hZ⟩ := mod1_ex a0 1000000 (by omega) (by omega)
  replace hZ := Lib.hid hZ
  replace hf := Lib.hid hf
  have hn := Lib.hid (newF (mm w.heap.size []) w 1 3 1000 (mm_nil (Nat.le_refl _)) (by omega) (by omega) (by omega))
  go_enter Try.func5, Try.ntmps5
  go_upto_region 4 with fail
  rw [hZ.out]
  clear hZ
  go_wp2_with fail
  refine hn.out.mono ?_
  rintro e w1 ⟨a, rfl, h1, ha, hb⟩
  have k1 := Lib.hid (Kp.of (m := mm w.heap.size []) hb)
  have hk := Lib.hid (askF h1 2 SZ 0 (by omega) (by omega) (by omega) (by omega))
  clear hn h1 hb ha
  go_wp2_with fail
  refine hk.out.mono ?_
  rintro e w2 ⟨rfl, h2, o2⟩
  have k2 := k1.out.trans o2.b
  have hb := (Below.refl w2.heap.size w2).alloc (Nat.le_refl _) (.cells #[.int .i8 4, .int .i64 0, .int .i64 1, .int .i64 2, .int .i64 0, .int .i64 0, .int .i64 1, .int .i64 3, .int .i64 0, .int .i64 SZ, .int .i64 0, .bool false, .slice none 0 0] 31)
  have cb := Lib.hid (blk_new w2 [.int .i8 4, .int .i64 0, .int .i64 1, .int .i64 2, .int .i64 0, .int .i64 0, .int .i64 1, .int .i64 3, .int .i64 0, .int .i64 SZ, .int .i64 0, .bool false, .slice none 0 0] 31)
  have ht := Lib.hid (toldA (h2.bel hb) 0 9 SZ (by omega) (by omega) (by omega) (by omega) (by omega) (by omega))
  have k3 := Lib.hid (k2.trans (Kp.of hb))
  clear hk h2 o2 k1 k2 hb
  go_upto_region 8 with fail
  generalize w2.alloc (.cells #[.int .i8 4, .int .i64 0, .int .i64 1, .int .i64 2, .int .i64 0, .int .i64 0, .int .i64 1, .int .i64 3, .int .i64 0, .int .i64 SZ, .int .i64 0, .bool false, .slice none 0 0] 31) = W3 at cb ht k3 ⊢
  generalize w2.heap.size = c at cb ⊢
  have c2_ := cb.out.c 2 _ rfl
  clear cb
  go_wp2_with fail
  refine ht.out.mono ?_
  rintro e w4 ⟨q, g, cq, rfl, h5, k5⟩
  have hIn : RS (mm w.heap.size []) a SZ 0 0 0 w4 := .inl ⟨q, g, cq, _, h5, rfl, rfl, rfl, by show SZ = SZ - 0; omega, rfl, rfl⟩
  have k6 := Lib.hid (k3.out.trans k5)
  replace hIn := Lib.hid hIn
  clear ht c2_ h5 k5 k3
  go_wp2_with fail
  go_loopw [9, 10, 11] (fun s9 s10 s11 wr => ∃ (i : Nat) (no sum : Int), s9 = .int .i64 sum ∧ s10 = .int .i64 sum ∧ s11 = .int .i64 (i : Nat) ∧ i ≤ N ∧ no ≤ 1 ∧ RS (mm w.heap.size []) a SZ no sum sum wr ∧ Kp (mm w.heap.size []) w wr ∧ 0 ≤ sum ∧ sum ≤ SZ ∧ (sum < SZ ∨ ∃ p c, AgE (mm w.heap.size []) wr a (aR SZ no) p c)) (fun _ _ s11 _ => N - (intOf s11).toNat)
  case atStart => exact ⟨0, 0, 0, rfl, rfl, rfl, Nat.zero_le _, by decide, hIn.out, k6.out, Int.le_refl _, by omega, .inl (by omega)⟩
  case round =>
    obtain ⟨i, no, sum, rfl, rfl, rfl, hi, hno, hR, hK, u1, u2, u3⟩ := hrel
    have ii : (i : Int) ≤ (N : Int) := by omega
    by_cases hlti : i < N
    · have ii1 : (i : Int) < (N : Int) := by omega
      obtain ⟨b1, f1, rfl, hb1, hc1⟩ := hf.out (by omega)
      have hbl : Below w.heap.size w wr := hK.bel (fun i hi => .inl hi) (Nat.le_refl _)
      have x1 := (hbl.cell (p := ⟨b1, f1 + i, none⟩) hb1).trans (hc1 i hlti)
      obtain ⟨sv, hsv⟩ : ∃ sv, f i = sv := ⟨_, rfl⟩
      rw [hsv] at x1
      have hsp := Lib.hid (fun nn => spQ hR nn hno (by omega))
      replace hK := Lib.hid hK
      replace u3 := Lib.hid u3
      clear hsv hc1 hbl hIn k6 hR
      have t1 : (0 : Int) < SZ + 1 := by omega
      have t2 : ¬ (SZ + 1 = 0) := by omega
      obtain ⟨nn, hnn⟩ : ∃ nn, sv.tmod (SZ + 1) = nn := ⟨_, rfl⟩
      have nn1 : nn ≤ SZ := by have := Int.tmod_lt_of_pos sv t1; omega
      have nn2 : -SZ ≤ nn := by have := Int.lt_tmod_of_pos sv t1; omega
      replace hnn := Lib.hid hnn
      go_upto_region 15 with fail
      rw [hnn.out]
      clear hnn x1 u3
      go_wp2_with fail
      refine (hsp.out nn).mono ?_
      rintro e w5 ⟨k, s2, rfl, hR2, hK2, v1, v2, hcase⟩
      have hrp := Lib.hid (rpQ hR2 (by omega))
      have hK3 := Lib.hid (hK.out.trans hK2)
      clear hsp hR2 hK2 hK
      rcases hcase with ⟨rfl, rfl⟩ | ⟨hk0, rfl⟩
      · go_wp2_with fail
        refine hrp.out.mono ?_
        rintro e w6 ⟨hres, hR4, hz, hK4⟩
        have hK5 := Lib.hid (hK3.out.trans hK4)
        replace hR4 := Lib.hid hR4
        replace hz := Lib.hid hz
        clear hrp hK4 hK3
        rcases hres with ⟨hlt, r, rc, rfl, rb⟩ | ⟨heq, rfl⟩
        · have r10 := rb.c 10 _ rfl
          have r8 := rb.c 8 _ rfl
          have r7 := rb.c 7 _ rfl
          have r11 := rb.c 11 _ rfl
          clear rb
          go_wp2_with fail
          go_roundw
          case rel => exact ⟨i + 1, 1, sum + nn, rfl, rfl, by go_num, hlti, Int.le_refl _, hR4.out, hK5.out, by omega, by omega, hz.out⟩
          case measure => simp [intOf]; omega
        · obtain rfl : nn = 0 := by omega
          clear heq
          go_wp2_with fail
          go_roundw
          case rel => exact ⟨i + 1, 1, sum + 0, by first | rfl | simp, by first | rfl | simp, by go_num, hlti, Int.le_refl _, hR4.out, hK5.out, by omega, by omega, hz.out⟩
          case measure => simp [intOf]; omega
      · have hk1 : (k == 0) = false := by simpa using hk0
        go_wp2_with fail
        refine hrp.out.mono ?_
        rintro e w6 ⟨hres, hR4, hz, hK4⟩
        have hK5 := Lib.hid (hK3.out.trans hK4)
        replace hR4 := Lib.hid hR4
        replace hz := Lib.hid hz
        clear hrp hK4 hK3
        rcases hres with ⟨hlt, r, rc, rfl, rb⟩ | ⟨_, rfl⟩
        · omega
        · go_wp2_with fail
          go_roundw
          case rel => exact ⟨i + 1, 1, _, rfl, rfl, by go_num, hlti, Int.le_refl _, hR4.out, hK5.out, by omega, by omega, hz.out⟩
          case measure => simp [intOf]; omega
    · obtain rfl : i = N := by omega
      have hcl := Lib.hid (clQ hR hno u3 (by omega))
      replace hK := Lib.hid hK
      clear hR hIn k6 u3
      go_wp2_with fail
      refine hcl.out.mono ?_
      rintro e w5 ⟨hres, ⟨p2, c2, hE⟩, hK2⟩
      have hK3 := hK.out.trans hK2
      have htk : Calls Try.prog 10 #[.pointer (some ⟨a, 0, none⟩), .int .i64 2, .int .i64 1] w5 (TokQ p2 c2 (mm w.heap.size []) a (aR SZ 1) w5 0) := tokA hE 2 1 (Int.le_refl _)
      replace htk := Lib.hid htk
      replace hK3 := Lib.hid hK3
      clear hcl hE hK2 hK
      rcases hres with ⟨hlt, r, rc, rfl, rb, _⟩ | ⟨heq, rfl⟩
      · have r10 := rb.c 10 _ rfl
        have r11 := rb.c 11 _ rfl
        clear rb
        go_wp2_with fail
        refine htk.out.mono ?_
        rintro e w6 ⟨rfl, hE2, hK4⟩
        have hK5 := Lib.hid (hK3.out.trans hK4)
        have hsp := Lib.hid (spend_E 2 1 1 (hE2.at 1))
        clear r10 r11 htk hE2 hK4 hK3
        go_wp2_with fail
        refine hsp.out.mono ?_
        rintro e w7 ⟨p3, c3, rfl, _, hK6⟩
        have hK7 := Lib.hid ((hK5.out.trans hK6).bel (B := w.heap.size) (fun i hi => .inl hi) (Nat.le_refl _))
        rw [show spE 1 = 170 from rfl]
        clear hsp hK6 hK5
        go_wp2_with fail
        refine (wakes22_c _).mono ?_
        rintro e w9 ⟨rfl, hb⟩
        have hF := Lib.hid (bNext hK7.out hb (Nat.le_refl _))
        clear hb hK7
        go_wp2_with fail
        go_ret
        exact ⟨rfl, hF.out⟩
      · subst heq
        go_wp2_with fail
        refine htk.out.mono ?_
        rintro e w6 ⟨rfl, hE2, hK4⟩
        have hK5 := Lib.hid (hK3.out.trans hK4)
        have hsp := Lib.hid (spend_E 2 1 1 (hE2.at 1))
        clear htk hE2 hK4 hK3
        go_wp2_with fail
        refine hsp.out.mono ?_
        rintro e w7 ⟨p3, c3, rfl, _, hK6⟩
        have hK7 := Lib.hid ((hK5.out.trans hK6).bel (B := w.heap.size) (fun i hi => .inl hi) (Nat.le_refl _))
        rw [show spE 1 = 170 from rfl]
        clear hsp hK6 hK5
        go_wp2_with fail
        refine (wakes22_c _).mono ?_
        rintro e w9 ⟨rfl, hb⟩
        have hF := Lib.hid (bNext hK7.out hb (Nat.le_refl _))
        clear hb hK7
        go_wp2_with fail
        go_ret
        exact ⟨rfl, hF.out⟩

set_option maxRecDepth 100000 in
theorem agentReports_walk (w : World) (a0 : Int) (v1 : Value) (a1 : XT_Lint) (w0 : (Lit.int .i64 a0).wf = true) (w1 : Is_Lint w v1 a1) :
    Calls Try.prog 5 #[.int .i64 a0, v1] w fun e w' => e = .returned (.bool true) ∧ Below w.heap.size w w' := by
  obtain ⟨p1, N, c1, rfl, _, _, hf⟩ := w1
  by_cases h : N ≤ 60
  · refine agentReports_some w a0 a1 p1 N c1 h (fun hp => ?_)
    obtain ⟨b, off, e, hb, hc⟩ := hf hp
    exact ⟨b, off, e, hb, fun i hi => (hc i hi).1⟩
  · exact agentReports_great w a0 p1 N c1 (by omega)
end Go.Proofs.Ytldknmcnmhdgfaa
