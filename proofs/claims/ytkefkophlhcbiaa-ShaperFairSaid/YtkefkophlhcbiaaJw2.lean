/- The record judged as a whole: what is to be answered; the document's answer. -/
import Derived.Test.YtkefkophlhcbiaaMC
import Derived.Test.YtkefkophlhcbiaaBase
namespace Go.Proofs.Ytkefkophlhcbiaa
open Go.ChangeShapes Go.WideShapes Go.ChangeAt Go.RowKit
set_option linter.unusedVariables false
set_option linter.unusedSimpArgs false
open Pk BigFrame By
open Bs (cellB IntRows)

namespace Jw
/-- A row of slices of bytes. -/
structure BsAt (w : World) (a : Option Addr) (n : Nat) (A : Nat → Option Addr) (L C : Nat → Nat) (D : Nat → List Nat) : Prop where
  row : 0 < n → ∃ b off, a = some ⟨b, off, none⟩ ∧ b < w.heap.size ∧ ∀ i, i < n → w.cell? ⟨b, off + i, none⟩ = some (.slice (A i) (L i) (C i))
  by_ : ∀ i, i < n → Byt w (A i) (L i) (C i) (D i)
theorem BsAt.bel {w w' : World} {a : Option Addr} {n : Nat} {A : Nat → Option Addr} {L C : Nat → Nat} {D : Nat → List Nat} (h : BsAt w a n A L C D) (k : Below w.heap.size w w') : BsAt w' a n A L C D :=
  ⟨fun hn => by
    obtain ⟨b, off, ha, hb, hc⟩ := h.row hn
    exact ⟨b, off, ha, Nat.lt_of_lt_of_le hb k.size, fun i hi => (k.cell (p := ⟨b, off + i, none⟩) hb).trans (hc i hi)⟩, fun i hi => (h.by_ i hi).bel k⟩
def bsD (d : List Nat) : ByteArray := bstrK d.length (fun i => d.getD i 0)
theorem conv_bsD {w : World} {a : Option Addr} {n cap : Nat} {d : List Nat} (h : Byt w a n cap d) : (convert 34 9 (.slice a n cap)).run Try.prog w = .ok (.string (bsD d)) w := by
  have q := conv_argK (w := w) (a := a) (n := n) (cap := cap) (f := fun i => d.getD i 0) (fun hn => byt_at h hn)
  unfold bsD
  rw [← h.len]
  exact q
theorem bsD_eq {d e : List Nat} (hd : ∀ x ∈ d, x < 256) (he : ∀ x ∈ e, x < 256) : bsD d = bsD e ↔ d = e := by
  have lt : ∀ (l : List Nat), (∀ x ∈ l, x < 256) → ∀ i, i < l.length → l.getD i 0 < 256 := fun l hl i hi => by
    rw [List.getD_eq_getElem?_getD, List.getElem?_eq_getElem hi]
    exact hl _ (List.getElem_mem hi)
  constructor
  · intro h
    obtain ⟨h1, h2⟩ := (bstr_eqK (lt d hd) (lt e he)).1 h
    refine List.ext_getElem h1 (fun i hi hj => ?_)
    have := h2 i hi
    rw [List.getD_eq_getElem?_getD, List.getD_eq_getElem?_getD, List.getElem?_eq_getElem hi, List.getElem?_eq_getElem hj] at this
    exact this
  · intro h; rw [h]
/-- What a record is. -/
structure Jd where
  ni : Nat
  no : Nat
  nb : Nat
  N : Nat
  D : Nat → List Nat
  E : Nat → List Nat
  T : Nat → Int
  S : Nat → Nat → Int
def Jd.b (J : Jd) (i : Nat) : List Nat := J.D ((J.S i 5).toNat - 1)
def Jd.t (J : Jd) (i : Nat) : Int := ((J.b i).getD 1 0 : Nat)
def Jd.C (J : Jd) (i : Nat) : Int := ((J.b i).getD 2 0 : Nat)
/-- A packet that went out is one that came in. -/
def Jd.headOk (J : Jd) (i : Nat) : Prop := 1 ≤ J.S i 5 ∧ J.S i 5 ≤ J.ni ∧ goodD (J.b i) ∧ flowE J.T J.N (J.t i) (J.C i) = 0 ∧ J.b i = J.E i ∧ J.S i 2 = J.t i ∧ J.S i 3 = flowI J.T J.N (J.t i) (J.C i) ∧ J.S i 4 = ((J.b i).length : Nat)
def Jd.clash (J : Jd) (i j : Nat) : Prop := J.S j 5 = J.S i 5 ∨ (J.S j 3 = J.S i 3 ∧ J.S i 5 < J.S j 5)
def Jd.ok (J : Jd) (i : Nat) : Prop := J.headOk i ∧ ∀ j, j < i → ¬ J.clash i j
def Jd.whole (J : Jd) : Prop := J.no = J.nb ∧ ∀ i, i < J.no → J.ok i
/-- Where it stands in memory. -/
structure JAt (w : World) (J : Jd) (ai af ao ab : Option Addr) (fb fo ob oo : Nat) (A : Nat → Option Addr) (L C : Nat → Nat) (A2 : Nat → Option Addr) (L2 C2 : Nat → Nat) : Prop where
  i : BsAt w ai J.ni A L C J.D
  b : BsAt w ab J.nb A2 L2 C2 J.E
  f : 0 < J.N → af = some ⟨fb, fo, none⟩ ∧ fb < w.heap.size
  fc : ∀ q, q < J.N → w.cell? ⟨fb, fo + q * 3, none⟩ = some (.int .i64 (J.T q))
  o : 0 < J.no → ao = some ⟨ob, oo, none⟩ ∧ ob < w.heap.size
  oc : ∀ q j, q < J.no → j < 6 → w.cell? ⟨ob, oo + q * 6 + j, none⟩ = some (.int .i64 (J.S q j))
  k : J.ni ≤ 200 ∧ J.no ≤ 200 ∧ J.nb ≤ 200 ∧ J.N ≤ 200
  l : (∀ q, q < J.ni → L q ≤ 60000) ∧ (∀ q, q < J.nb → L2 q ≤ 60000)
theorem JAt.bel {w w' : World} {J : Jd} {ai af ao ab : Option Addr} {fb fo ob oo : Nat} {A : Nat → Option Addr} {L C : Nat → Nat} {A2 : Nat → Option Addr} {L2 C2 : Nat → Nat} (h : JAt w J ai af ao ab fb fo ob oo A L C A2 L2 C2) (k : Below w.heap.size w w') : JAt w' J ai af ao ab fb fo ob oo A L C A2 L2 C2 :=
  ⟨h.i.bel k, h.b.bel k, fun hn => ⟨(h.f hn).1, Nat.lt_of_lt_of_le (h.f hn).2 k.size⟩, fun q hq => (k.cell (p := ⟨fb, fo + q * 3, none⟩) (h.f (by omega)).2).trans (h.fc q hq), fun hn => ⟨(h.o hn).1, Nat.lt_of_lt_of_le (h.o hn).2 k.size⟩, fun q j hq hj => (k.cell (p := ⟨ob, oo + q * 6 + j, none⟩) (h.o (by omega)).2).trans (h.oc q j hq hj), h.k, h.l⟩
def BoolP (P : Prop) (w : World) (e : Ending) (w' : World) : Prop := ((P ∧ e = .returned (.bool true)) ∨ (¬ P ∧ e = .returned (.bool false))) ∧ Below w.heap.size w w'
end Jw
open Jw

set_option maxRecDepth 100000 in
set_option maxHeartbeats 8000000 in
theorem rwhole_c (w : World) (J : Jd) (ai af ao ab : Option Addr) (ci cf co cb : Nat) (fb fo ob oo : Nat) (A : Nat → Option Addr) (L C : Nat → Nat) (A2 : Nat → Option Addr) (L2 C2 : Nat → Nat) (h : JAt w J ai af ao ab fb fo ob oo A L C A2 L2 C2) :
    Calls Try.prog 20 #[.slice ai J.ni ci, .slice af J.N cf, .slice ao J.no co, .slice ab J.nb cb] w (BoolP J.whole w) := by
  have hk := h.k
  obtain ⟨ni, hni⟩ : ∃ n, RowKit.Hid (J.ni = n) := ⟨_, Lib.hid rfl⟩
  obtain ⟨no, hno⟩ : ∃ n, RowKit.Hid (J.no = n) := ⟨_, Lib.hid rfl⟩
  obtain ⟨nb, hnb⟩ : ∃ n, RowKit.Hid (J.nb = n) := ⟨_, Lib.hid rfl⟩
  obtain ⟨N, hN⟩ : ∃ n, RowKit.Hid (J.N = n) := ⟨_, Lib.hid rfl⟩
  rw [hni.out, hno.out, hnb.out, hN.out] at hk
  rw [hni.out, hno.out, hnb.out, hN.out]
  obtain ⟨q1, q2, q3, q4⟩ := hk
  have z1 : (ni : Int) ≤ 200 := by omega
  have z2 : (no : Int) ≤ 200 := by omega
  have z3 : (nb : Int) ≤ 200 := by omega
  by_cases hlen : no = nb
  · subst hlen
    replace h := Lib.hid h
    go_enter Try.func20, Try.ntmps20
    go_wp2_with fail
    go_loopw [8, 9, 10, 11, 12, 13, 14, 15, 16] (fun _ s9 _ _ _ _ _ _ _ wr => ∃ (i : Nat), s9 = .int .i64 (i : Nat) ∧ i ≤ no ∧ RowKit.Hid (∀ j, j < i → J.ok j) ∧ RowKit.Hid (Below w.heap.size w wr)) (fun _ s9 _ _ _ _ _ _ _ _ => no - (intOf s9).toNat)
    case atStart => exact ⟨0, rfl, Nat.zero_le _, Lib.hid (fun j hj => by omega), Lib.hid (Below.refl _ _)⟩
    case round =>
      obtain ⟨i, rfl, hi, hok, hB⟩ := hrel
      have iz : (i : Int) ≤ (no : Int) := by omega
      obtain ⟨W, rfl⟩ : ∃ W : World, W = wr := ⟨_, rfl⟩
      by_cases hlt : i < no
      · have iz1 : (i : Int) < (no : Int) := by omega
        have hW := h.out.bel hB.out
        obtain ⟨rfl, hobl⟩ := hW.o (by have := hno.out; omega)
        have o5 := hW.oc i 5 (by have := hno.out; omega) (by omega)
        replace hW := Lib.hid hW
        obtain ⟨x5, hx5⟩ : ∃ x, RowKit.Hid (J.S i 5 = x) := ⟨_, Lib.hid rfl⟩
        rw [hx5.out] at o5
        have hbad : ∀ (u : World), Below W.heap.size W u → ¬ J.headOk i → BoolP J.whole w (.returned (.bool false)) u := fun u hb hn => ⟨.inr ⟨fun q => hn (q.2 i (by have := hno.out; omega)).1, rfl⟩, hB.out.trans (hb.mono hB.out.size)⟩
        replace hbad := Lib.hid hbad
        by_cases h1 : x5 < 1
        · have hF := Lib.hid (hbad.out _ (Below.refl _ _) (fun q => by have := q.1; have := hx5.out; omega))
          go_wp2_with fail
          exact bodyPost_ret (v := .bool false) (by simp [results, Try.results20, go_sem]) rfl hF.out
        · by_cases h2 : (ni : Int) < x5
          · have hF := Lib.hid (hbad.out _ (Below.refl _ _) (fun q => by have := q.2.1; have := hx5.out; have := hni.out; omega))
            go_wp2_with fail
            exact bodyPost_ret (v := .bool false) (by simp [results, Try.results20, go_sem]) rfl hF.out
          · skip
            obtain ⟨k, rfl⟩ : ∃ k : Nat, x5 = (k : Int) + 1 := ⟨(x5 - 1).toNat, by omega⟩
            have hkn : k < ni := by omega
            have kz : (k : Int) < (ni : Int) := by omega
            have kz2 : (k : Int) + 1 ≤ (ni : Int) := by omega
            obtain ⟨bi, oi, rfl, hbl, hci⟩ := hW.out.i.row (by have := hni.out; omega)
            have a0 := hci k (by have := hni.out; omega)
            have hy := hW.out.i.by_ k (by have := hni.out; omega)
            have hll := hW.out.l.1 k (by have := hni.out; omega)
            have hyl := hy.len
            have hJb : RowKit.Hid (J.b i = J.D k) := Lib.hid (by unfold Jd.b; rw [hx5.out]; congr 1)
            obtain ⟨dk, hdk⟩ : ∃ d, RowKit.Hid (J.D k = d) := ⟨_, Lib.hid rfl⟩
            obtain ⟨Ak, hAk⟩ : ∃ d, RowKit.Hid (A k = d) := ⟨_, Lib.hid rfl⟩
            obtain ⟨Lk, hLk⟩ : ∃ d, RowKit.Hid (L k = d) := ⟨_, Lib.hid rfl⟩
            obtain ⟨Ck, hCk⟩ : ∃ d, RowKit.Hid (C k = d) := ⟨_, Lib.hid rfl⟩
            rw [hdk.out, hAk.out, hLk.out, hCk.out] at hy
            rw [hAk.out, hLk.out, hCk.out] at a0
            rw [hLk.out] at hll
            have hp := Lib.hid (rparseL_c Ak Lk Ck dk W hy (by omega))
            have hyH := Lib.hid hy
            have hlk : (Lk : Int) ≤ 60000 := by omega
            clear hci hyl hy
            go_wp2_with fail
            refine hp.out.mono ?_
            rintro e w5 ⟨(⟨hg, a1, m1, c1, rfl⟩ | ⟨hg, rfl⟩), hb5⟩
            · have hB6 := hb5.alloc hb5.size (.cells #[.int .i64 0, .int .i64 ((dk.getD 1 0 : Nat) : Int), .int .i64 ((dk.getD 2 0 : Nat) : Int), .slice a1 m1 c1] 38)
              have bx := By.blkN_new w5 [.int .i64 0, .int .i64 ((dk.getD 1 0 : Nat) : Int), .int .i64 ((dk.getD 2 0 : Nat) : Int), .slice a1 m1 c1] 38
              have hW6 := hW.out.bel hB6
              have hc2 : ((dk.getD 2 0 : Nat) : Int) ≤ 9223372036854775807 := by
                have hlt := hyH.out.lt
                by_cases hh : 2 < dk.length
                · have := hlt (dk.getD 2 0) (by rw [List.getD_eq_getElem?_getD, List.getElem?_eq_getElem hh]; exact List.getElem_mem hh)
                  omega
                · rw [List.getD_eq_getElem?_getD, List.getElem?_eq_none (by omega)]; simp
              have hfl := rflow_c J.T 0 ((dk.getD 1 0 : Nat) : Int) ((dk.getD 2 0 : Nat) : Int) (.slice a1 m1 c1) af J.N cf fb fo _ (by have := hN.out; omega) (fun hn => (hW6.f hn).2) (fun hn => (hW6.f hn).1) (fun q hq => hW6.fc q hq) hc2
              have ht : RowKit.Hid (J.t i = ((dk.getD 1 0 : Nat) : Int)) := Lib.hid (by unfold Jd.t; rw [hJb.out, hdk.out])
              have hC : RowKit.Hid (J.C i = ((dk.getD 2 0 : Nat) : Int)) := Lib.hid (by unfold Jd.C; rw [hJb.out, hdk.out])
              obtain ⟨t1, ht1⟩ : ∃ t : Int, RowKit.Hid (((dk.getD 1 0 : Nat) : Int) = t) := ⟨_, Lib.hid rfl⟩
              obtain ⟨t2, ht2⟩ : ∃ t : Int, RowKit.Hid (((dk.getD 2 0 : Nat) : Int) = t) := ⟨_, Lib.hid rfl⟩
              rw [ht1.out, ht2.out] at hfl bx hB6
              rw [ht1.out, ht2.out]
              rw [ht1.out] at ht
              rw [ht2.out] at hC
              rw [hN.out] at hfl
              obtain ⟨fi, hfi⟩ : ∃ f, RowKit.Hid (flowI J.T N t1 t2 = f) := ⟨_, Lib.hid rfl⟩
              obtain ⟨fe, hfe⟩ : ∃ f, RowKit.Hid (flowE J.T N t1 t2 = f) := ⟨_, Lib.hid rfl⟩
              rw [hfi.out, hfe.out] at hfl
              have b0 := bx.c 0 _ rfl
              have b1 := bx.c 1 _ rfl
              have b2 := bx.c 2 _ rfl
              have b3 := bx.c 3 _ rfl
              replace hfl := Lib.hid hfl
              replace bx := Lib.hid bx
              replace hB6 := Lib.hid hB6
              clear hW6 hb5 hp hc2
              go_wp2_with fail
              refine hfl.out.mono ?_
              rintro e w7 ⟨rfl, hb7⟩
              have hB7 := Lib.hid (hB6.out.trans (hb7.mono hB6.out.size))
              have bx7 := bx.out.bel hb7
              have e1 := bx7.c 1 _ rfl
              have hW7 := hW.out.bel hB7.out
              have o2 := hW7.oc i 2 (by have := hno.out; omega) (by omega)
              have o3 := hW7.oc i 3 (by have := hno.out; omega) (by omega)
              have o4 := hW7.oc i 4 (by have := hno.out; omega) (by omega)
              obtain ⟨x2, hx2⟩ : ∃ x, RowKit.Hid (J.S i 2 = x) := ⟨_, Lib.hid rfl⟩
              obtain ⟨x3, hx3⟩ : ∃ x, RowKit.Hid (J.S i 3 = x) := ⟨_, Lib.hid rfl⟩
              obtain ⟨x4, hx4⟩ : ∃ x, RowKit.Hid (J.S i 4 = x) := ⟨_, Lib.hid rfl⟩
              rw [hx2.out] at o2
              rw [hx3.out] at o3
              rw [hx4.out] at o4
              obtain ⟨bb, ob2, rfl, hbbl, hcb⟩ := hW7.b.row (by have := hno.out; have := hnb.out; omega)
              have a2 := hcb i (by have := hnb.out; omega)
              have hy2 := hW7.b.by_ i (by have := hnb.out; omega)
              obtain ⟨ei, hei⟩ : ∃ d, RowKit.Hid (J.E i = d) := ⟨_, Lib.hid rfl⟩
              obtain ⟨Ai2, hAi2⟩ : ∃ d, RowKit.Hid (A2 i = d) := ⟨_, Lib.hid rfl⟩
              obtain ⟨Li2, hLi2⟩ : ∃ d, RowKit.Hid (L2 i = d) := ⟨_, Lib.hid rfl⟩
              obtain ⟨Ci2, hCi2⟩ : ∃ d, RowKit.Hid (C2 i = d) := ⟨_, Lib.hid rfl⟩
              rw [hei.out, hAi2.out, hLi2.out, hCi2.out] at hy2
              rw [hAi2.out, hLi2.out, hCi2.out] at a2
              have hy1 := hyH.out.bel hB7.out
              have hiff := bsD_eq hy1.lt hy2.lt
              have g1 := conv_bsD hy1
              have g2 := conv_bsD hy2
              have g1d := fun n => conv_bsD (hy1.bel (bDrew (Below.refl w7.heap.size w7) n))
              have g2d := fun n => conv_bsD (hy2.bel (bDrew (Below.refl w7.heap.size w7) n))
              have hlen1 : RowKit.Hid (((J.b i).length : Int) = (Lk : Int)) := Lib.hid (by rw [hJb.out, hdk.out, ← hy1.len])
              generalize bsD dk = S1 at g1 g1d hiff
              generalize bsD ei = S2 at g2 g2d hiff
              clear hy1 hy2 hcb hW7 bx7 hb7 hfl bx b0 b1 b2 b3
              replace hiff := Lib.hid hiff
              by_cases hfe0 : fe = 0
              · subst hfe0
                by_cases hS : S1 = S2
                · have hbe : RowKit.Hid (J.b i = J.E i) := Lib.hid (by rw [hJb.out, hdk.out, hei.out]; exact hiff.out.1 hS)
                  subst hS
                  by_cases hx2t : x2 = t1
                  · subst hx2t
                    by_cases hx3f : x3 = fi
                    · subst hx3f
                      by_cases hx4l : x4 = (Lk : Int)
                      · subst hx4l
                        have hho : RowKit.Hid (J.headOk i) := Lib.hid ⟨by rw [hx5.out]; omega, by rw [hx5.out, hni.out]; omega, by rw [hJb.out, hdk.out]; exact hg, by rw [ht.out, hC.out, hN.out]; exact hfe.out, hbe.out, by rw [hx2.out, ht.out], by rw [hx3.out, ht.out, hC.out, hN.out]; exact hfi.out.symm, by rw [hx4.out]; exact hlen1.out.symm⟩
                        go_upto_region 12 with fail
                        go_big_quiet (fail)
                        have hB8 := Lib.hid (bDrew hB7.out nq)
                        clear a0 a2 o2 o3 o4 e1 g1 g2 g1d g2d hB7 hiff
                        generalize w7.drewN nq = W8 at hB8 ⊢
                        have hW8 := hW.out.bel hB8.out
                        replace hW8 := Lib.hid hW8
                        go_wp2_with fail
                        go_loopw [8, 16] (fun _ s16 wz => ∃ (q : Nat), s16 = .int .i64 (q : Nat) ∧ q ≤ i ∧ RowKit.Hid (∀ j, j < q → ¬ J.clash i j) ∧ wz = W8) (fun _ s16 _ => i - (intOf s16).toNat)
                        case atStart => exact ⟨0, rfl, Nat.zero_le _, Lib.hid (fun j hj => by omega), rfl⟩
                        case round =>
                          obtain ⟨q, rfl, hq, hcl, rfl⟩ := hrel
                          have qz : (q : Int) ≤ (i : Int) := by omega
                          have hBW := Lib.hid (hB.out.trans (hB8.out.mono hB.out.size))
                          by_cases hqi : q < i
                          · have qz1 : (q : Int) < (i : Int) := by omega
                            have p5 := hW8.out.oc q 5 (by have := hno.out; omega) (by omega)
                            have p3 := hW8.out.oc q 3 (by have := hno.out; omega) (by omega)
                            obtain ⟨y5, hy5⟩ : ∃ x, RowKit.Hid (J.S q 5 = x) := ⟨_, Lib.hid rfl⟩
                            obtain ⟨y3, hy3⟩ : ∃ x, RowKit.Hid (J.S q 3 = x) := ⟨_, Lib.hid rfl⟩
                            rw [hy5.out] at p5
                            rw [hy3.out] at p3
                            have hqno : (q : Int) < (no : Int) := by omega
                            by_cases g5 : y5 = (k : Int) + 1
                            · have hF : RowKit.Hid (¬ J.whole) := Lib.hid (fun z => (z.2 i (by have := hno.out; omega)).2 q hqi (.inl (by rw [hy5.out, hx5.out]; exact g5)))
                              subst g5
                              go_wp2_with fail
                              exact bodyPost_ret (v := .bool false) (by simp [results, Try.results20, go_sem]) rfl ⟨.inr ⟨hF.out, rfl⟩, hBW.out⟩
                            · have g5b : (y5 == (k : Int) + 1) = false := by simpa using g5
                              by_cases g3 : y3 = x3
                              · by_cases g6 : (k : Int) + 1 < y5
                                · have hF : RowKit.Hid (¬ J.whole) := Lib.hid (fun z => (z.2 i (by have := hno.out; omega)).2 q hqi (.inr ⟨by rw [hy3.out, hx3.out]; exact g3, by rw [hy5.out, hx5.out]; exact g6⟩))
                                  subst g3
                                  go_wp2_with fail
                                  exact bodyPost_ret (v := .bool false) (by simp [results, Try.results20, go_sem]) rfl ⟨.inr ⟨hF.out, rfl⟩, hBW.out⟩
                                · have hnx := Lib.hid (fun (z : J.clash i q) => by
                                    rcases z with z | z
                                    · rw [hy5.out, hx5.out] at z; exact g5 z
                                    · have := z.2; rw [hy5.out, hx5.out] at this; exact g6 this)
                                  subst g3
                                  go_wp2_with fail
                                  go_roundw
                                  case rel => exact ⟨q + 1, by go_num, hqi, Lib.hid (fun j hj => by
                                    by_cases e : j = q
                                    · subst e; exact hnx.out
                                    · exact hcl.out j (by omega)), by first | rfl | trivial⟩
                                  case measure => simp [intOf]; omega
                              · have g3b : (y3 == x3) = false := by simpa using g3
                                have hnx := Lib.hid (fun (z : J.clash i q) => by
                                  rcases z with z | z
                                  · rw [hy5.out, hx5.out] at z; exact g5 z
                                  · have := z.1; rw [hy3.out, hx3.out] at this; exact g3 this)
                                go_wp2_with fail
                                go_roundw
                                case rel => exact ⟨q + 1, by go_num, hqi, Lib.hid (fun j hj => by
                                  by_cases e : j = q
                                  · subst e; exact hnx.out
                                  · exact hcl.out j (by omega)), by first | rfl | trivial⟩
                                case measure => simp [intOf]; omega
                          · obtain rfl : q = i := by omega
                            have hokq := Lib.hid (show ∀ j, j < q + 1 → J.ok j from fun j hj => by
                              by_cases e : j = q
                              · subst e; exact ⟨hho.out, hcl.out⟩
                              · exact hok.out j (by omega))
                            go_wp2_with fail
                            go_roundw
                            case rel => exact ⟨q + 1, by go_num, hlt, hokq, hBW⟩
                            case measure => simp [intOf]; omega
                      · have hno2 := Lib.hid (fun q : J.headOk i => hx4l (by rw [← hx4.out, q.2.2.2.2.2.2.2]; exact hlen1.out))
                        have hbb : (x4 == (Lk : Int)) = false := by simpa using hx4l
                        have hbc : (x4 != (Lk : Int)) = true := by simpa using hx4l
                        go_upto_region 12 with fail
                        go_big_quiet (fail)
                        go_wp2_with fail
                        exact bodyPost_ret (v := .bool false) (by simp [results, Try.results20, go_sem]) rfl (hbad.out _ (bDrew hB7.out _) hno2.out)
                    · have hno2 := Lib.hid (fun q : J.headOk i => hx3f (by rw [← hx3.out, q.2.2.2.2.2.2.1, ht.out, hC.out, hN.out]; exact hfi.out))
                      have hbb : (x3 == fi) = false := by simpa using hx3f
                      have hbc : (x3 != fi) = true := by simpa using hx3f
                      go_upto_region 12 with fail
                      go_big_quiet (fail)
                      go_wp2_with fail
                      exact bodyPost_ret (v := .bool false) (by simp [results, Try.results20, go_sem]) rfl (hbad.out _ (bDrew hB7.out _) hno2.out)
                  · have hno2 := Lib.hid (fun q : J.headOk i => hx2t (by rw [← hx2.out, q.2.2.2.2.2.1, ht.out]))
                    have hbb : (x2 == t1) = false := by simpa using hx2t
                    have hbc : (x2 != t1) = true := by simpa using hx2t
                    go_upto_region 12 with fail
                    go_big_quiet (fail)
                    go_wp2_with fail
                    exact bodyPost_ret (v := .bool false) (by simp [results, Try.results20, go_sem]) rfl (hbad.out _ (bDrew hB7.out _) hno2.out)
                · have hno2 := Lib.hid (fun q : J.headOk i => hS (hiff.out.2 (by have := q.2.2.2.2.1; rw [hJb.out, hdk.out, hei.out] at this; exact this)))
                  have hSn := ba_neK hS
                  have hSb : (S1.toList == S2.toList) = false := by simpa using hSn
                  go_upto_region 12 with fail
                  go_big_quiet (fail)
                  go_wp2_with fail
                  exact bodyPost_ret (v := .bool false) (by simp [results, Try.results20, go_sem]) rfl (hbad.out _ (bDrew hB7.out _) hno2.out)
              · have hno2 := Lib.hid (fun q : J.headOk i => hfe0 (by have := q.2.2.2.1; rw [ht.out, hC.out, hN.out, hfe.out] at this; exact this))
                have hfb : (fe == 0) = false := by simpa using hfe0
                have hfc : (fe != 0) = true := by simpa using hfe0
                go_upto_region 12 with fail
                go_big_quiet (fail)
                go_wp2_with fail
                exact bodyPost_ret (v := .bool false) (by simp [results, Try.results20, go_sem]) rfl (hbad.out _ (bDrew hB7.out _) hno2.out)
            · have hno2 := Lib.hid (fun q : J.headOk i => hg (by have := q.2.2.1; rw [hJb.out, hdk.out] at this; exact this))
              have hB6 := hb5.alloc hb5.size (.cells #[.int .i64 0, .int .i64 0, .int .i64 0, .slice none 0 0] 38)
              have bx := By.blkN_new w5 [.int .i64 0, .int .i64 0, .int .i64 0, .slice none 0 0] 38
              have hW6 := hW.out.bel hB6
              have hfl := rflow_c J.T 0 0 0 (.slice none 0 0) af J.N cf fb fo _ (by have := hN.out; omega) (fun hn => (hW6.f hn).2) (fun hn => (hW6.f hn).1) (fun q hq => hW6.fc q hq) (by omega)
              rw [hN.out] at hfl
              obtain ⟨fi, hfi⟩ : ∃ f, RowKit.Hid (flowI J.T N 0 0 = f) := ⟨_, Lib.hid rfl⟩
              obtain ⟨fe, hfe⟩ : ∃ f, RowKit.Hid (flowE J.T N 0 0 = f) := ⟨_, Lib.hid rfl⟩
              rw [hfi.out, hfe.out] at hfl
              have b0 := bx.c 0 _ rfl
              have b1 := bx.c 1 _ rfl
              have b2 := bx.c 2 _ rfl
              have b3 := bx.c 3 _ rfl
              replace hfl := Lib.hid hfl
              replace hB6 := Lib.hid hB6
              clear hW6 hb5 hp bx
              go_wp2_with fail
              refine hfl.out.mono ?_
              rintro e w7 ⟨rfl, hb7⟩
              have hB7 := Lib.hid (hB6.out.trans (hb7.mono hB6.out.size))
              clear hb7 hfl b0 b1 b2 b3
              go_upto_region 12 with fail
              go_big_quiet (fail)
              go_wp2_with fail
              exact bodyPost_ret (v := .bool false) (by simp [results, Try.results20, go_sem]) rfl (hbad.out _ (bDrew hB7.out _) hno2.out)
      · obtain rfl : i = no := by omega
        have hwh := Lib.hid (show J.whole from ⟨by rw [hno.out, hnb.out], fun j hj => hok.out j (by have := hno.out; omega)⟩)
        go_wp2_with fail
        exact bodyPost_ret (v := .bool true) (by simp [results, Try.results20, go_sem]) rfl ⟨.inl ⟨hwh.out, rfl⟩, hB.out⟩
  · have hlz : ¬ (no : Int) = (nb : Int) := by omega
    have hnw := Lib.hid (show ¬ J.whole from fun q => hlen (by rw [← hno.out, ← hnb.out]; exact q.1))
    go_enter Try.func20, Try.ntmps20
    go_wp2_with fail
    go_ret
    exact ⟨.inr ⟨hnw.out, rfl⟩, Below.refl _ _⟩
end Go.Proofs.Ytkefkophlhcbiaa
