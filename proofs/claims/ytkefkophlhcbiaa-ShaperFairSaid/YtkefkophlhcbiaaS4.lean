/- The shaper: what comes in. -/
import Derived.Test.YtkefkophlhcbiaaS3
namespace Go.Proofs.Ytkefkophlhcbiaa
open Go.ChangeShapes Go.WideShapes Go.ChangeAt Go.RowKit
set_option linter.unusedVariables false
set_option linter.unusedSimpArgs false
open BigFrame Pk Sh
open By (Byt)
open Fp (Pt PQ PqP)
open Bs (cellB)

namespace Sh
/-- What the program's Parse answers, with what is carried. -/
def ParseC (d : List Nat) (w : World) (e : Ending) (w' : World) : Prop :=
  ((goodD d ∧ ∃ a1 c1, e = .returned (.tuple #[.agg #[.int .i64 0, .int .i64 (d.getD 1 0 : Nat), .int .i64 (d.getD 2 0 : Nat), .slice a1 (d.drop 8).length c1], .int .i64 0]) ∧ Byt w' a1 (d.drop 8).length c1 (d.drop 8) ∧ By.Far w.heap.size a1 (d.drop 8).length) ∨ (¬ goodD d ∧ e = .returned (.tuple #[.agg #[.int .i64 0, .int .i64 0, .int .i64 0, .slice none 0 0], .int .i64 230]))) ∧ Below w.heap.size w w'
theorem tailV_drop (d : List Nat) : tailV (fun i => d.getD i 0) (d.length - 8) = By.bvals (d.drop 8) := by
  unfold tailV
  show Pk.bvals _ = _
  have e : ((List.range (d.length - 8)).map fun i => d.getD (8 + i) 0) = d.drop 8 := by
    refine List.ext_getElem (by simp) fun i h1 h2 => ?_
    have h3 : 8 + i < d.length := by simp at h2; omega
    simp [List.getD, h3]
  rw [e]
  rfl
theorem flow_ok {T : Nat → Int} {N : Nat} {t C : Int} (h : flowE T N t C = 0) : ∃ k : Nat, flowI T N t C = (k : Int) ∧ k < N ∧ T k = t := by
  unfold flowE at h
  unfold flowI
  by_cases h1 : (ofs T t N).length = 0
  · rw [if_pos h1] at h; cases h
  · rw [if_neg h1] at h ⊢
    by_cases h2 : C < 0
    · rw [if_pos h2] at h; cases h
    · rw [if_neg h2]
      refine ⟨_, rfl, ?_⟩
      have hl : C.toNat % (ofs T t N).length < (ofs T t N).length := Nat.mod_lt _ (by omega)
      have hm : (ofs T t N).getD (C.toNat % (ofs T t N).length) 0 ∈ ofs T t N := by
        rw [List.getD_eq_getElem?_getD, List.getElem?_eq_getElem hl]
        exact List.getElem_mem hl
      exact mem_ofs.1 hm
theorem flowE_cases (T : Nat → Int) (N : Nat) (t C : Int) : flowE T N t C = 0 ∨ flowE T N t C = 161 ∨ flowE T N t C = 2 := by
  unfold flowE
  split
  · exact .inr (.inl rfl)
  · split
    · exact .inr (.inr rfl)
    · exact .inl rfl
def dT (d : List Nat) : Int := ((d.getD 1 0 : Nat) : Int)
def dC (d : List Nat) : Int := ((d.getD 2 0 : Nat) : Int)
def dK (I : Ids) (d : List Nat) : Nat := (flowI I.T I.N (dT d) (dC d)).toNat
def inOk (I : Ids) (d : List Nat) (G : Gs) : Prop := goodD d ∧ flowE I.T I.N (dT d) (dC d) = 0 ∧ (G.Q (dK I d)).length < I.room (dK I d)
def inPt (d : List Nat) (G : Gs) : Pt := ⟨(G.came : Int) + 1, dT d, dC d, d.drop 8⟩
def inG (I : Ids) (d : List Nat) (G : Gs) : Gs := { G with Q := upQ G.Q (dK I d) (G.Q (dK I d) ++ [inPt d G]), came := G.came + 1, n := G.n + 1 }
/-- A packet came in, or it is refused. -/
def InP (I : Ids) (L : List Nat) (d : List Nat) (G : Gs) (w : World) (e : Ending) (w' : World) : Prop :=
  ((inOk I d G ∧ e = .returned (.tuple #[.int .i64 ((G.came : Int) + 1), .int .i64 0]) ∧ SHP I (inG I d G) L w') ∨
   (¬ inOk I d G ∧ ∃ x : Int, x ≠ 0 ∧ ∃ G', e = .returned (.tuple #[.int .i64 0, .int .i64 x]) ∧ SHP I G' L w' ∧ G'.Q = G.Q ∧ G'.tok = G.tok ∧ G'.link = G.link ∧ G'.came = G.came ∧ G'.x = G.x ∧ G'.n ≤ G.n + 1)) ∧ By.KF I.ns w w'
end Sh

theorem parseC_c (a : Option Addr) (n cap : Nat) (d : List Nat) (w : World) (h : Byt w a n cap d) :
    Calls Try.prog 26 #[.slice a n cap] w (ParseC d w) := by
  by_cases h8 : n < 8
  · refine (parse_short a n cap w h8).mono ?_
    rintro e w' ⟨rfl, hb⟩
    exact ⟨.inr ⟨fun g => by have := g.1; have := h.len; omega, rfl⟩, hb⟩
  · obtain ⟨b, o, rfl, hb, hB⟩ := byt_at h (by omega)
    have hl := h.len
    by_cases hck : ckS (tot (fun i => d.getD i 0) n) = 65535
    · by_cases hh : n ≤ 1500 ∧ d.getD 0 0 = 105 ∧ 1 ≤ d.getD 1 0 ∧ d.getD 1 0 ≤ 16 ∧ d.getD 3 0 = 0 ∧ d.getD 4 0 * 256 + d.getD 5 0 = n - 8 ∧ ¬ (d.getD 6 0 = 255 ∧ d.getD 7 0 = 255)
      · refine (parse_ok b o n cap (fun i => d.getD i 0) w (by omega) hh.1 h.le h.mx hB hb hh.2.1 hh.2.2.1 hh.2.2.2.1 hh.2.2.2.2.1 hh.2.2.2.2.2.1 hck hh.2.2.2.2.2.2).mono ?_
        rintro e w' ⟨v, rfl, hown, _, hbb⟩
        have hg : goodD d := by
          unfold goodD
          rw [← hl]
          exact ⟨by omega, hh.1, hh.2.1, hh.2.2.1, hh.2.2.2.1, hh.2.2.2.2.1, hh.2.2.2.2.2.1, hck, hh.2.2.2.2.2.2⟩
        have hdl : (d.drop 8).length = n - 8 := by simp; omega
        have ho := hown
        rw [hl, tailV_drop] at ho
        rw [← hl, ← hdl] at ho
        obtain ⟨a1, c1, rfl, hby⟩ := By.Byt.of_own' (n := (d.drop 8).length) ho (fun x hx => h.lt x (List.mem_of_mem_drop hx)) rfl rfl
        refine ⟨.inl ⟨hg, a1, c1, rfl, hby, fun hp => ?_⟩, hbb⟩
        rcases hown.2 with ⟨e, e2⟩ | ⟨g, cap', cur, e, _⟩
        · rw [hdl] at hp; omega
        · have hb2 := (hown.lt g (by rw [e]; rfl)).1
          injection e with e1 e2 e3
          exact ⟨g, 0, e1, by omega⟩
      · refine (parse_no b o n cap (fun i => d.getD i 0) w (by omega) h.le h.mx hB hb hck hh).mono ?_
        rintro e w' ⟨rfl, hbb⟩
        exact ⟨.inr ⟨fun g => hh (by unfold goodD at g; rw [← hl] at g; exact ⟨g.2.1, g.2.2.1, g.2.2.2.1, g.2.2.2.2.1, g.2.2.2.2.2.1, g.2.2.2.2.2.2.1, g.2.2.2.2.2.2.2.2⟩), rfl⟩, hbb⟩
    · refine (parse_bad b o n cap (fun i => d.getD i 0) w (by omega) h.le h.mx hB hb hck).mono ?_
      rintro e w' ⟨rfl, hbb⟩
      exact ⟨.inr ⟨fun g => hck (by unfold goodD at g; rw [← hl] at g; exact g.2.2.2.2.2.2.2.1), rfl⟩, hbb⟩

set_option maxRecDepth 100000 in
set_option maxHeartbeats 8000000 in
theorem in_c {I : Ids} {G : Gs} {L : List Nat} {w : World} (h : SHP I G L w) (a : Option Addr) (n cap : Nat) (d : List Nat) (hy : Byt w a n cap d) (hG : G.n + 1 ≤ 6000) :
    Calls Try.prog 11 #[.pointer (some ⟨I.s, 0, none⟩), .slice a n cap] w (InP I L d G w) := by
  obtain ⟨tb, ct, pos, kd, hS⟩ := h
  have hp := Lib.hid (parseC_c a n cap d w hy)
  have hlt : ∀ x ∈ d, x < 256 := hy.lt
  replace hlt := Lib.hid hlt
  have hsl := hS.b.l
  have hno : ∀ (x : Int) (u : World), ¬ inOk I d G → x ≠ 0 → Below w.heap.size w u → InP I L d G w (.returned (.tuple #[.int .i64 0, .int .i64 x])) u := fun x u h1 h2 hb =>
    ⟨.inr ⟨h1, x, h2, G, rfl, ⟨tb, ct, pos, kd, hS.bel hb⟩, rfl, rfl, rfl, rfl, rfl, Nat.le_succ _⟩, By.KF.of hb⟩
  replace hno := Lib.hid hno
  replace hS := Lib.hid hS
  replace hG := Lib.hid hG
  clear hy
  go_enter Try.func11, Try.ntmps11
  go_wp2_with fail
  refine hp.out.mono ?_
  rintro e w1 ⟨(⟨hg, a1, c1, rfl, hby, hfar⟩ | ⟨hg, rfl⟩), hb1⟩
  · obtain ⟨t1, ht1⟩ : ∃ t : Int, RowKit.Hid (((d.getD 1 0 : Nat) : Int) = t) := ⟨_, Lib.hid rfl⟩
    obtain ⟨t2, ht2⟩ : ∃ t : Int, RowKit.Hid (((d.getD 2 0 : Nat) : Int) = t) := ⟨_, Lib.hid rfl⟩
    obtain ⟨m, hm⟩ : ∃ m, RowKit.Hid ((d.drop 8).length = m) := ⟨_, Lib.hid rfl⟩
    have hgb : d.length ≤ 1500 := hg.2.1
    have hmm : (m : Int) ≤ 1492 := by rw [← hm.out]; simp; omega
    have hd1 : d.getD 1 0 < 256 ∧ d.getD 2 0 < 256 := by
      have q : ∀ i, d.getD i 0 < 256 := fun i => by
        by_cases hi : i < d.length
        · rw [List.getD_eq_getElem?_getD, List.getElem?_eq_getElem hi]; exact hlt.out _ (List.getElem_mem hi)
        · rw [List.getD_eq_getElem?_getD, List.getElem?_eq_none (by omega)]; simp
      exact ⟨q 1, q 2⟩
    have ht2b : 0 ≤ t2 ∧ t2 ≤ 255 := by rw [← ht2.out]; omega
    rw [hm.out] at hby hfar
    rw [ht1.out, ht2.out, hm.out]
    have hBa := hb1.alloc hb1.size (.cells #[.int .i64 0, .int .i64 t1, .int .i64 t2, .slice a1 m c1] 38)
    have bp := By.blkN_new w1 [.int .i64 0, .int .i64 t1, .int .i64 t2, .slice a1 m c1] 38
    have hby1 := Lib.hid (hby.bel ((Below.refl w1.heap.size w1).alloc (Nat.le_refl _) (.cells #[.int .i64 0, .int .i64 t1, .int .i64 t2, .slice a1 m c1] 38)))
    have hpbw : w.heap.size ≤ w1.heap.size := hb1.size
    replace hg := Lib.hid hg
    replace hfar := Lib.hid hfar
    clear hb1 hby hp hd1
    go_upto_region 6 with fail
    generalize (w1.alloc (.cells #[.int .i64 0, .int .i64 t1, .int .i64 t2, .slice a1 m c1] 38)) = U at hBa bp hby1 ⊢
    obtain ⟨pb, hpb⟩ : ∃ p, w1.heap.size = p := ⟨_, rfl⟩
    rw [hpb] at bp hpbw ⊢
    clear hpb
    have hSU := hS.out.bel hBa
    have hN8 := hSU.n1.2
    obtain ⟨e0, _, _, _, _⟩ := hSU.c3
    have b0 := bp.c 0 _ rfl
    have b1 := bp.c 1 _ rfl
    have b2 := bp.c 2 _ rfl
    have b3 := bp.c 3 _ rfl
    have hfl := Lib.hid (fun (u : World) (hu : Below U.heap.size U u) => flow_c I.T 0 t1 t2 (.slice a1 m c1) (some ⟨I.fb, 0, none⟩) I.N I.cf I.fb 0 u (by omega) (fun _ => (hSU.bel hu).fbl) (fun _ => rfl) (fun i hi => by rw [Nat.zero_add]; exact ((hSU.bel hu).fl i hi).1) (by omega))
    obtain ⟨fi, hfi⟩ : ∃ f, RowKit.Hid (flowI I.T I.N t1 t2 = f) := ⟨_, Lib.hid rfl⟩
    obtain ⟨fe, hfe⟩ : ∃ f, RowKit.Hid (flowE I.T I.N t1 t2 = f) := ⟨_, Lib.hid rfl⟩
    rw [hfi.out, hfe.out] at hfl
    replace hSU := Lib.hid hSU
    replace hBa := Lib.hid hBa
    replace bp := Lib.hid bp
    refine wp_region_noPanic ?_
    refine Stg.wp_region_L [] (Bs.SB U) (by kernel_rfl) (fun _ => (Below.refl _ _).drew) (fun hHeld => ?_)
    refine Stg.wpAnyL_start (n' := 11) (l' := #[false, false, false, false, false, false, false, false, false, false, false]) (by kernel_rfl) (by kernel_rfl) ?_
    refine Stg.wpAnyL_free (i := 0) (v := ?_) 0 rfl (by kernel_rfl) (by kernel_rfl) (by kernel_rfl) (by kernel_rfl) (by kernel_rfl) (fun _ _ _ h => h) (Or.inl ⟨by kernel_rfl, ?_⟩) (by assumption) ?_
    rotate_left
    · intro u _
      try simp only [List.getElem_toArray, List.getElem_cons_succ, List.getElem_cons_zero]
      go_simp
      try with_reducible rfl
    try simp only [Act.put, List.setIfInBounds_toArray, List.set_cons_zero, List.set_cons_succ]
    refine Stg.wpAnyL_free (i := 1) (v := ?_) 0 rfl (by kernel_rfl) (by kernel_rfl) (by kernel_rfl) (by kernel_rfl) (by kernel_rfl) (fun _ _ _ h => h) (Or.inl ⟨by kernel_rfl, ?_⟩) (by assumption) ?_
    rotate_left
    · intro u _
      try simp only [List.getElem_toArray, List.getElem_cons_succ, List.getElem_cons_zero]
      go_simp
      try with_reducible rfl
    try simp only [Act.put, List.setIfInBounds_toArray, List.set_cons_zero, List.set_cons_succ]
    refine Stg.wpAnyL_free (i := 2) (v := ?_) 0 rfl (by kernel_rfl) (by kernel_rfl) (by kernel_rfl) (by kernel_rfl) (by kernel_rfl) (fun _ _ _ h => h) (Or.inl ⟨by kernel_rfl, ?_⟩) (by assumption) ?_
    rotate_left
    · intro u _
      try simp only [List.getElem_toArray, List.getElem_cons_succ, List.getElem_cons_zero]
      go_simp
      try with_reducible rfl
    try simp only [Act.put, List.setIfInBounds_toArray, List.set_cons_zero, List.set_cons_succ]
    refine Stg.wpAnyL_start (n' := 8) (l' := #[true, true, true, false, false, false, false, false, false, false, false]) (by kernel_rfl) (by kernel_rfl) ?_
    refine Stg.wpAnyL_take (i := 3) (v := ?_) [5, 6, 7, 8, 9, 10] 0 rfl (by kernel_rfl) (by kernel_rfl) (by kernel_rfl) (by kernel_rfl) (by kernel_rfl) (fun _ _ _ h => h) (Or.inl ⟨by kernel_rfl, ?_⟩) (by assumption) ?_
    rotate_left
    · intro u hSu
      skip
      have sB := hSu rfl
      have y0 := cellB sB e0
      have y1 := cellB sB b0
      have y2 := cellB sB b1
      have y3 := cellB sB b2
      have y4 := cellB sB b3
      try simp only [List.getElem_toArray, List.getElem_cons_succ, List.getElem_cons_zero]
      go_simp
      try with_reducible rfl
    try simp only [Act.put, List.setIfInBounds_toArray, List.set_cons_zero, List.set_cons_succ]
    refine Stg.wpAnyL_take (i := 4) (v := ?_) [5, 6, 7, 8, 9, 10] 0 rfl (by kernel_rfl) (by kernel_rfl) (by kernel_rfl) (by kernel_rfl) (by kernel_rfl) (fun _ _ _ h => h) (Or.inl ⟨by kernel_rfl, ?_⟩) (by assumption) ?_
    rotate_left
    · intro u hSu
      skip
      have sB := hSu rfl
      have y0 := cellB sB e0
      have y1 := cellB sB b0
      have y2 := cellB sB b1
      have y3 := cellB sB b2
      have y4 := cellB sB b3
      try simp only [List.getElem_toArray, List.getElem_cons_succ, List.getElem_cons_zero]
      go_simp
      try with_reducible rfl
    try simp only [Act.put, List.setIfInBounds_toArray, List.set_cons_zero, List.set_cons_succ]
    refine Stg.wpAnyL_one (i := 5) 0 rfl (by kernel_rfl) (by kernel_rfl) (fun K hK => ?_)
    try simp only [List.getElem_toArray, List.getElem_cons_succ, List.getElem_cons_zero]
    go_simp
    refine (hfl.out _ (hHeld rfl)).mono ?_
    rintro e w5 ⟨rfl, hb1⟩
    refine hK.out _ _ ?_ (fun hHeld1 => ?_)
    · exact fun _ => bNext (hHeld rfl) hb1 (Nat.le_refl _)
    clear hK K
    try simp only [Act.put, List.setIfInBounds_toArray, List.set_cons_zero, List.set_cons_succ]
    refine Stg.wpAnyL_start (n' := 5) (l' := #[true, true, true, true, true, true, false, false, false, false, false]) (by kernel_rfl) (by kernel_rfl) ?_
    refine Stg.wpAnyL_free (i := 6) (v := ?_) 0 rfl (by kernel_rfl) (by kernel_rfl) (by kernel_rfl) (by kernel_rfl) (by kernel_rfl) (fun _ _ _ h => h) (Or.inl ⟨by kernel_rfl, ?_⟩) (by assumption) ?_
    rotate_left
    · intro u _
      try simp only [List.getElem_toArray, List.getElem_cons_succ, List.getElem_cons_zero]
      go_simp
      try with_reducible rfl
    try simp only [Act.put, List.setIfInBounds_toArray, List.set_cons_zero, List.set_cons_succ]
    refine Stg.wpAnyL_free (i := 7) (v := ?_) 0 rfl (by kernel_rfl) (by kernel_rfl) (by kernel_rfl) (by kernel_rfl) (by kernel_rfl) (fun _ _ _ h => h) (Or.inl ⟨by kernel_rfl, ?_⟩) (by assumption) ?_
    rotate_left
    · intro u _
      try simp only [List.getElem_toArray, List.getElem_cons_succ, List.getElem_cons_zero]
      go_simp
      try with_reducible rfl
    try simp only [Act.put, List.setIfInBounds_toArray, List.set_cons_zero, List.set_cons_succ]
    refine Stg.wpAnyL_free (i := 8) (v := ?_) 0 rfl (by kernel_rfl) (by kernel_rfl) (by kernel_rfl) (by kernel_rfl) (by kernel_rfl) (fun _ _ _ h => h) (Or.inl ⟨by kernel_rfl, ?_⟩) (by assumption) ?_
    rotate_left
    · intro u _
      try simp only [List.getElem_toArray, List.getElem_cons_succ, List.getElem_cons_zero]
      go_simp
      try with_reducible rfl
    try simp only [Act.put, List.setIfInBounds_toArray, List.set_cons_zero, List.set_cons_succ]
    refine Stg.wpAnyL_start (n' := 2) (l' := #[true, true, true, true, true, true, true, true, true, false, false]) (by kernel_rfl) (by kernel_rfl) ?_
    refine Stg.wpAnyL_free (i := 9) (v := ?_) 0 rfl (by kernel_rfl) (by kernel_rfl) (by kernel_rfl) (by kernel_rfl) (by kernel_rfl) (fun _ _ _ h => h) (Or.inl ⟨by kernel_rfl, ?_⟩) (by assumption) ?_
    rotate_left
    · intro u _
      try simp only [List.getElem_toArray, List.getElem_cons_succ, List.getElem_cons_zero]
      go_simp
      try with_reducible rfl
    try simp only [Act.put, List.setIfInBounds_toArray, List.set_cons_zero, List.set_cons_succ]
    refine Stg.wpAnyL_free (i := 10) (v := ?_) 0 rfl (by kernel_rfl) (by kernel_rfl) (by kernel_rfl) (by kernel_rfl) (by kernel_rfl) (fun _ _ _ h => h) (Or.inl ⟨by kernel_rfl, ?_⟩) (by assumption) ?_
    rotate_left
    · intro u _
      try simp only [List.getElem_toArray, List.getElem_cons_succ, List.getElem_cons_zero]
      go_simp
      try with_reducible rfl
    try simp only [Act.put, List.setIfInBounds_toArray, List.set_cons_zero, List.set_cons_succ]
    refine Stg.wpAnyL_done (by kernel_rfl) ?_ _
    try simp only [List.getElem_toArray, List.getElem_cons_succ, List.getElem_cons_zero]
    try simp only [Act.put, List.setIfInBounds_toArray, List.set_cons_zero, List.set_cons_succ]
    refine NoPanic.normal ?_
    have hb5 := hHeld1 rfl
    have hB5 := Lib.hid (hBa.out.trans (hb5.mono (by have := hBa.out.size; omega)))
    have bp5 := Lib.hid (bp.out.bel hb5)
    have hby5 := Lib.hid (hby1.out.bel hb5)
    have hS5 := Lib.hid (hSU.out.bel hb5)
    clear e0 b0 b1 b2 b3 hfl hBa bp hby1 hSU
    clear hHeld hb1 hb5
    by_cases hfe0 : fe = 0
    · subst hfe0
      obtain ⟨k, hk, hkN, hkT⟩ := flow_ok hfe.out
      obtain rfl : fi = (k : Int) := by rw [← hfi.out]; exact hk
      have hcmI := Lib.hid (hS5.out.acc)
      have e21 := hS5.out.c3.2.2.2.2
      obtain ⟨cm, hcm⟩ : ∃ c, RowKit.Hid (G.came = c) := ⟨_, Lib.hid rfl⟩
      rw [hcm.out] at e21
      have hcmb : (cm : Int) ≤ 6000 := by have := hcmI.out; rw [← hcm.out]; omega
      have hne : I.s < pb := by omega
      have b0 := bp5.out.c 0 _ rfl
      have bf := bp5.out.f 0
      have hB6 := Lib.hid (hB5.out.setCell (p := ⟨pb, 0, none⟩) hpbw (.int .i64 ((cm : Int) + 1)))
      have bp6 := Lib.hid (bp5.out.set (i := 0) (by simp) (.int .i64 ((cm : Int) + 1)))
      have hby6 := Lib.hid (hby5.out.set b0 (fun x q => by cases q) (.int .i64 ((cm : Int) + 1)))
      have hS6 := Lib.hid (hS.out.bel hB6.out)
      clear hS5 hby5 bp5 hB5
      go_upto_region 10 with fail
      clear e21 b0 bf
      generalize (w5.setCell ⟨pb, 0, none⟩ (.int .i64 ((cm : Int) + 1))) = U2 at hB6 bp6 hby6 hS6 ⊢
      replace bp6 : RowKit.Hid (Bs.Blk U2 pb [.int .i64 ((cm : Int) + 1), .int .i64 t1, .int .i64 t2, .slice a1 m c1]) := Lib.hid bp6.out
      obtain ⟨_, e1, _, _, _⟩ := hS6.out.c3
      have q1 := hS6.out.qr k hkN
      have b0 := bp6.out.c 0 _ rfl
      have b1 := bp6.out.c 1 _ rfl
      have b2 := bp6.out.c 2 _ rfl
      have b3 := bp6.out.c 3 _ rfl
      have hNi : (k : Int) < (I.N : Int) := by omega
      have hkd : RowKit.Hid (dK I d = k) := Lib.hid (by unfold dK dT dC; rw [ht1.out, ht2.out, hfi.out, Int.toNat_natCast])
      have hpt : RowKit.Hid (inPt d G = ⟨(cm : Int) + 1, t1, t2, d.drop 8⟩) := Lib.hid (by unfold inPt dT dC; rw [ht1.out, ht2.out, hcm.out])
      have hPk : RowKit.Hid (PtOk (I.T k) (inPt d G)) := Lib.hid (by
        rw [hpt.out]
        exact ⟨hkT.symm, ht2b.1, ht2b.2, by show (d.drop 8).length ≤ 1492; rw [hm.out]; omega, fun x hx => hlt.out x (List.mem_of_mem_drop hx)⟩)
      have hpb2 : RowKit.Hid (pb ∉ [I.qb k, I.rb k]) := Lib.hid (fun q => by
        have := (hS.out.pq k hkN).lt
        simp at q
        omega)
      by_cases hroom : (G.Q k).length < I.room k
      · have hpush : ∀ u, Below U2.heap.size U2 u → Calls Try.prog 28 #[.pointer (some ⟨I.qb k, 0, none⟩), .agg #[.int .i64 ((cm : Int) + 1), .int .i64 t1, .int .i64 t2, .slice a1 m c1]] u (PqP (.int .i64 0) (I.qb k) (I.rb k) (I.room k) (pos k) (G.dr k) (G.Q k ++ [inPt d G]) (I.ns ++ L) u) := fun u hu => by
          have q := pq_push_ok ((hS6.out.bel hu).pq k hkN) ((hS6.out.bel hu).ns_lt) ⟨(cm : Int) + 1, t1, t2, d.drop 8⟩ a1 c1 (by show Byt u a1 (d.drop 8).length c1 (d.drop 8); rw [hm.out]; exact hby6.out.bel hu) (by show (d.drop 8).length ≤ 1492; rw [hm.out]; omega) hroom
          rw [hpt.out, ← hm.out]
          exact q
        replace hpush := Lib.hid hpush
        refine wp_region_noPanic ?_
        refine Stg.wp_region_L [8] (Bs.SB U2) (by kernel_rfl) (fun _ => (Below.refl _ _).drew) (fun hHeld => ?_)
        refine Stg.wpAnyL_start (n' := 10) (l' := #[false, false, false, false, false, false, false, false, false, false]) (by kernel_rfl) (by kernel_rfl) ?_
        refine Stg.wpAnyL_free (i := 0) (v := ?_) 0 rfl (by kernel_rfl) (by kernel_rfl) (by kernel_rfl) (by kernel_rfl) (by kernel_rfl) (fun _ _ _ h => h) (Or.inl ⟨by kernel_rfl, ?_⟩) (by assumption) ?_
        rotate_left
        · intro u _
          try simp only [List.getElem_toArray, List.getElem_cons_succ, List.getElem_cons_zero]
          go_simp
          try with_reducible rfl
        try simp only [Act.put, List.setIfInBounds_toArray, List.set_cons_zero, List.set_cons_succ]
        refine Stg.wpAnyL_free (i := 1) (v := ?_) 0 rfl (by kernel_rfl) (by kernel_rfl) (by kernel_rfl) (by kernel_rfl) (by kernel_rfl) (fun _ _ _ h => h) (Or.inl ⟨by kernel_rfl, ?_⟩) (by assumption) ?_
        rotate_left
        · intro u _
          try simp only [List.getElem_toArray, List.getElem_cons_succ, List.getElem_cons_zero]
          go_simp
          try with_reducible rfl
        try simp only [Act.put, List.setIfInBounds_toArray, List.set_cons_zero, List.set_cons_succ]
        refine Stg.wpAnyL_free (i := 2) (v := ?_) 0 rfl (by kernel_rfl) (by kernel_rfl) (by kernel_rfl) (by kernel_rfl) (by kernel_rfl) (fun _ _ _ h => h) (Or.inl ⟨by kernel_rfl, ?_⟩) (by assumption) ?_
        rotate_left
        · intro u _
          try simp only [List.getElem_toArray, List.getElem_cons_succ, List.getElem_cons_zero]
          go_simp
          try with_reducible rfl
        try simp only [Act.put, List.setIfInBounds_toArray, List.set_cons_zero, List.set_cons_succ]
        refine Stg.wpAnyL_start (n' := 7) (l' := #[true, true, true, false, false, false, false, false, false, false]) (by kernel_rfl) (by kernel_rfl) ?_
        refine Stg.wpAnyL_take (i := 3) (v := ?_) [5, 6, 8, 9] 0 rfl (by kernel_rfl) (by kernel_rfl) (by kernel_rfl) (by kernel_rfl) (by kernel_rfl) (fun _ _ _ h => h) (Or.inl ⟨by kernel_rfl, ?_⟩) (by assumption) ?_
        rotate_left
        · intro u hSu
          skip
          have sB := hSu rfl
          have y0 := cellB sB e1
          have y1 := cellB sB q1
          have y2 := cellB sB b0
          have y3 := cellB sB b1
          have y4 := cellB sB b2
          have y5 := cellB sB b3
          try simp only [List.getElem_toArray, List.getElem_cons_succ, List.getElem_cons_zero]
          go_simp
          try with_reducible rfl
        try simp only [Act.put, List.setIfInBounds_toArray, List.set_cons_zero, List.set_cons_succ]
        refine Stg.wpAnyL_free (i := 4) (v := ?_) 0 rfl (by kernel_rfl) (by kernel_rfl) (by kernel_rfl) (by kernel_rfl) (by kernel_rfl) (fun _ _ _ h => h) (Or.inl ⟨by kernel_rfl, ?_⟩) (by assumption) ?_
        rotate_left
        · intro u _
          try simp only [List.getElem_toArray, List.getElem_cons_succ, List.getElem_cons_zero]
          go_simp
          try with_reducible rfl
        try simp only [Act.put, List.setIfInBounds_toArray, List.set_cons_zero, List.set_cons_succ]
        refine Stg.wpAnyL_free (i := 5) (v := ?_) 0 rfl (by kernel_rfl) (by kernel_rfl) (by kernel_rfl) (by kernel_rfl) (by kernel_rfl) (fun _ _ _ h => h) (Or.inl ⟨by kernel_rfl, ?_⟩) (by assumption) ?_
        rotate_left
        · intro u _
          try simp only [List.getElem_toArray, List.getElem_cons_succ, List.getElem_cons_zero]
          go_simp
          try with_reducible rfl
        try simp only [Act.put, List.setIfInBounds_toArray, List.set_cons_zero, List.set_cons_succ]
        refine Stg.wpAnyL_start (n' := 4) (l' := #[true, true, true, true, true, true, false, false, false, false]) (by kernel_rfl) (by kernel_rfl) ?_
        refine Stg.wpAnyL_take (i := 6) (v := ?_) [8, 9] 0 rfl (by kernel_rfl) (by kernel_rfl) (by kernel_rfl) (by kernel_rfl) (by kernel_rfl) (fun _ _ _ h => h) (Or.inl ⟨by kernel_rfl, ?_⟩) (by assumption) ?_
        rotate_left
        · intro u hSu
          skip
          have sB := hSu rfl
          have y0 := cellB sB e1
          have y1 := cellB sB q1
          have y2 := cellB sB b0
          have y3 := cellB sB b1
          have y4 := cellB sB b2
          have y5 := cellB sB b3
          try simp only [List.getElem_toArray, List.getElem_cons_succ, List.getElem_cons_zero]
          go_simp
          try with_reducible rfl
        try simp only [Act.put, List.setIfInBounds_toArray, List.set_cons_zero, List.set_cons_succ]
        refine Stg.wpAnyL_take (i := 7) (v := ?_) [8, 9] 0 rfl (by kernel_rfl) (by kernel_rfl) (by kernel_rfl) (by kernel_rfl) (by kernel_rfl) (fun _ _ _ h => h) (Or.inl ⟨by kernel_rfl, ?_⟩) (by assumption) ?_
        rotate_left
        · intro u hSu
          skip
          have sB := hSu rfl
          have y0 := cellB sB e1
          have y1 := cellB sB q1
          have y2 := cellB sB b0
          have y3 := cellB sB b1
          have y4 := cellB sB b2
          have y5 := cellB sB b3
          try simp only [List.getElem_toArray, List.getElem_cons_succ, List.getElem_cons_zero]
          go_simp
          try with_reducible rfl
        try simp only [Act.put, List.setIfInBounds_toArray, List.set_cons_zero, List.set_cons_succ]
        refine Stg.wpAnyL_one (i := 8) 1 rfl (by kernel_rfl) (by kernel_rfl) (fun K hK => ?_)
        try simp only [List.getElem_toArray, List.getElem_cons_succ, List.getElem_cons_zero]
        go_simp
        refine (hpush.out _ (hHeld rfl)).mono ?_
        rintro e w9 ⟨rfl, hPQ, hKF⟩
        replace hKF := Lib.hid ((By.KF.of (hHeld rfl)).trans hKF)
        refine hK.out _ _ ?_ (fun hHeld1 => ?_)
        · exact fun h => absurd h (by decide)
        clear hK K
        try simp only [Act.put, List.setIfInBounds_toArray, List.set_cons_zero, List.set_cons_succ]
        refine Stg.wpAnyL_start (n' := 1) (l' := #[true, true, true, true, true, true, true, true, true, false]) (by kernel_rfl) (by kernel_rfl) ?_
        refine Stg.wpAnyL_free (i := 9) (v := ?_) 1 rfl (by kernel_rfl) (by kernel_rfl) (by kernel_rfl) (by kernel_rfl) (by kernel_rfl) (fun _ _ _ h => h) (Or.inl ⟨by kernel_rfl, ?_⟩) (by assumption) ?_
        rotate_left
        · intro u _
          try simp only [List.getElem_toArray, List.getElem_cons_succ, List.getElem_cons_zero]
          go_simp
          try with_reducible rfl
        try simp only [Act.put, List.setIfInBounds_toArray, List.set_cons_zero, List.set_cons_succ]
        refine Stg.wpAnyL_done (by kernel_rfl) ?_ _
        try simp only [List.getElem_toArray, List.getElem_cons_succ, List.getElem_cons_zero]
        try simp only [Act.put, List.setIfInBounds_toArray, List.set_cons_zero, List.set_cons_succ]
        refine NoPanic.normal ?_
        clear e1 q1 b0 b1 b2 b3 hpush
        clear hHeld hHeld1
        have hS9 := (hS6.out.queue hkN (G' := { G with Q := upQ G.Q k (G.Q k ++ [inPt d G]), n := G.n + 1 }) hKF.out hPQ rfl (funext fun i => by unfold upn; split; rename_i e; rw [e]; rfl) rfl rfl rfl rfl rfl (fun p hp => by
          rcases List.mem_append.1 hp with q | q
          · exact hS.out.pk k hkN p q
          · rw [List.mem_singleton] at q; subst q; exact hPk.out) (by
          have a := hcmI.out
          have t := totQ_up (Q := G.Q) (l := G.Q k ++ [inPt d G]) I.N hkN
          rw [List.length_append, List.length_singleton] at t
          show G.p + totQ (upQ G.Q k (G.Q k ++ [inPt d G])) I.N ≤ G.n + 1
          omega) ⟨Nat.le_succ _, hG.out⟩ (by have := hcmI.out.2.2.1 k hkN; show G.dr k ≤ G.n + 1; omega))
        have bp9 := Lib.hid (hKF.out.blk bp6.out hpb2.out)
        have e21 := hS9.c3.2.2.2.2
        have ef := hS9.b.f 21
        have b0 := bp9.out.c 0 _ rfl
        have hF : InP I L d G w (.returned (.tuple #[.int .i64 ((cm : Int) + 1), .int .i64 0])) (w9.setCell ⟨I.s, 21, none⟩ (.int .i64 ((cm : Int) + 1))) := by
          refine ⟨.inl ⟨⟨hg.out, by unfold dT dC; rw [ht1.out, ht2.out]; exact hfe.out, by rw [hkd.out]; exact hroom⟩, by rw [hcm.out], ⟨tb, ct, upn pos k (pos k), kd, ?_⟩⟩, ((By.KF.of hB6.out).trans (hKF.out.sub (fun q hq => ?_))).trans (kf_s I _ _)⟩
          · have a := hcmI.out
            have := hS9.store (G' := inG I d G) (o := 21) (v := .int .i64 ((cm : Int) + 1)) (by omega) (by
              have e := shC_setCame I { G with Q := upQ G.Q k (G.Q k ++ [inPt d G]), n := G.n + 1 } (cm + 1)
              rw [Int.natCast_succ] at e
              rw [e]
              unfold inG
              rw [hkd.out, hcm.out]) (by unfold inG; rw [hkd.out]) rfl rfl rfl hS9.tk hS9.lk ⟨Nat.le_refl _, hG.out⟩ (by show G.came + 1 ≤ G.n + 1; omega)
            exact this
          · simp at hq
            exact Ids.mem_ns.2 (.inr (.inr (.inr ⟨k, hkN, hq⟩)))
        replace hF := Lib.hid hF
        rw [show ({ G with Q := upQ G.Q k (G.Q k ++ [inPt d G]), n := G.n + 1 } : Gs).came = cm from hcm.out] at e21
        clear hS9 hPQ
        go_wp2_with fail
        exact bodyPost_ret (v := .tuple #[.int .i64 ((cm : Int) + 1), .int .i64 0]) (by simp [results, Try.results11, go_sem]) rfl hF.out
      · have hful : (G.Q k).length = I.room k := by
          have := (hS6.out.pq k hkN).q.n1
          omega
        have hpush : ∀ u, Below U2.heap.size U2 u → Calls Try.prog 28 #[.pointer (some ⟨I.qb k, 0, none⟩), .agg #[.int .i64 ((cm : Int) + 1), .int .i64 t1, .int .i64 t2, .slice a1 m c1]] u (PqP (.int .i64 100) (I.qb k) (I.rb k) (I.room k) (pos k) (G.dr k + 1) (G.Q k) (I.ns ++ L) u) := fun u hu => by
          have q := pq_push_full ((hS6.out.bel hu).pq k hkN) ⟨(cm : Int) + 1, t1, t2, d.drop 8⟩ a1 c1 (by show Byt u a1 (d.drop 8).length c1 (d.drop 8); rw [hm.out]; exact hby6.out.bel hu) (by show (d.drop 8).length ≤ 1492; rw [hm.out]; omega) hful (by have a := hcmI.out; have b := a.2.2.1 k hkN; omega)
          rw [← hm.out]
          exact q
        replace hpush := Lib.hid hpush
        refine wp_region_noPanic ?_
        refine Stg.wp_region_L [8] (Bs.SB U2) (by kernel_rfl) (fun _ => (Below.refl _ _).drew) (fun hHeld => ?_)
        refine Stg.wpAnyL_start (n' := 10) (l' := #[false, false, false, false, false, false, false, false, false, false]) (by kernel_rfl) (by kernel_rfl) ?_
        refine Stg.wpAnyL_free (i := 0) (v := ?_) 0 rfl (by kernel_rfl) (by kernel_rfl) (by kernel_rfl) (by kernel_rfl) (by kernel_rfl) (fun _ _ _ h => h) (Or.inl ⟨by kernel_rfl, ?_⟩) (by assumption) ?_
        rotate_left
        · intro u _
          try simp only [List.getElem_toArray, List.getElem_cons_succ, List.getElem_cons_zero]
          go_simp
          try with_reducible rfl
        try simp only [Act.put, List.setIfInBounds_toArray, List.set_cons_zero, List.set_cons_succ]
        refine Stg.wpAnyL_free (i := 1) (v := ?_) 0 rfl (by kernel_rfl) (by kernel_rfl) (by kernel_rfl) (by kernel_rfl) (by kernel_rfl) (fun _ _ _ h => h) (Or.inl ⟨by kernel_rfl, ?_⟩) (by assumption) ?_
        rotate_left
        · intro u _
          try simp only [List.getElem_toArray, List.getElem_cons_succ, List.getElem_cons_zero]
          go_simp
          try with_reducible rfl
        try simp only [Act.put, List.setIfInBounds_toArray, List.set_cons_zero, List.set_cons_succ]
        refine Stg.wpAnyL_free (i := 2) (v := ?_) 0 rfl (by kernel_rfl) (by kernel_rfl) (by kernel_rfl) (by kernel_rfl) (by kernel_rfl) (fun _ _ _ h => h) (Or.inl ⟨by kernel_rfl, ?_⟩) (by assumption) ?_
        rotate_left
        · intro u _
          try simp only [List.getElem_toArray, List.getElem_cons_succ, List.getElem_cons_zero]
          go_simp
          try with_reducible rfl
        try simp only [Act.put, List.setIfInBounds_toArray, List.set_cons_zero, List.set_cons_succ]
        refine Stg.wpAnyL_start (n' := 7) (l' := #[true, true, true, false, false, false, false, false, false, false]) (by kernel_rfl) (by kernel_rfl) ?_
        refine Stg.wpAnyL_take (i := 3) (v := ?_) [5, 6, 8, 9] 0 rfl (by kernel_rfl) (by kernel_rfl) (by kernel_rfl) (by kernel_rfl) (by kernel_rfl) (fun _ _ _ h => h) (Or.inl ⟨by kernel_rfl, ?_⟩) (by assumption) ?_
        rotate_left
        · intro u hSu
          skip
          have sB := hSu rfl
          have y0 := cellB sB e1
          have y1 := cellB sB q1
          have y2 := cellB sB b0
          have y3 := cellB sB b1
          have y4 := cellB sB b2
          have y5 := cellB sB b3
          try simp only [List.getElem_toArray, List.getElem_cons_succ, List.getElem_cons_zero]
          go_simp
          try with_reducible rfl
        try simp only [Act.put, List.setIfInBounds_toArray, List.set_cons_zero, List.set_cons_succ]
        refine Stg.wpAnyL_free (i := 4) (v := ?_) 0 rfl (by kernel_rfl) (by kernel_rfl) (by kernel_rfl) (by kernel_rfl) (by kernel_rfl) (fun _ _ _ h => h) (Or.inl ⟨by kernel_rfl, ?_⟩) (by assumption) ?_
        rotate_left
        · intro u _
          try simp only [List.getElem_toArray, List.getElem_cons_succ, List.getElem_cons_zero]
          go_simp
          try with_reducible rfl
        try simp only [Act.put, List.setIfInBounds_toArray, List.set_cons_zero, List.set_cons_succ]
        refine Stg.wpAnyL_free (i := 5) (v := ?_) 0 rfl (by kernel_rfl) (by kernel_rfl) (by kernel_rfl) (by kernel_rfl) (by kernel_rfl) (fun _ _ _ h => h) (Or.inl ⟨by kernel_rfl, ?_⟩) (by assumption) ?_
        rotate_left
        · intro u _
          try simp only [List.getElem_toArray, List.getElem_cons_succ, List.getElem_cons_zero]
          go_simp
          try with_reducible rfl
        try simp only [Act.put, List.setIfInBounds_toArray, List.set_cons_zero, List.set_cons_succ]
        refine Stg.wpAnyL_start (n' := 4) (l' := #[true, true, true, true, true, true, false, false, false, false]) (by kernel_rfl) (by kernel_rfl) ?_
        refine Stg.wpAnyL_take (i := 6) (v := ?_) [8, 9] 0 rfl (by kernel_rfl) (by kernel_rfl) (by kernel_rfl) (by kernel_rfl) (by kernel_rfl) (fun _ _ _ h => h) (Or.inl ⟨by kernel_rfl, ?_⟩) (by assumption) ?_
        rotate_left
        · intro u hSu
          skip
          have sB := hSu rfl
          have y0 := cellB sB e1
          have y1 := cellB sB q1
          have y2 := cellB sB b0
          have y3 := cellB sB b1
          have y4 := cellB sB b2
          have y5 := cellB sB b3
          try simp only [List.getElem_toArray, List.getElem_cons_succ, List.getElem_cons_zero]
          go_simp
          try with_reducible rfl
        try simp only [Act.put, List.setIfInBounds_toArray, List.set_cons_zero, List.set_cons_succ]
        refine Stg.wpAnyL_take (i := 7) (v := ?_) [8, 9] 0 rfl (by kernel_rfl) (by kernel_rfl) (by kernel_rfl) (by kernel_rfl) (by kernel_rfl) (fun _ _ _ h => h) (Or.inl ⟨by kernel_rfl, ?_⟩) (by assumption) ?_
        rotate_left
        · intro u hSu
          skip
          have sB := hSu rfl
          have y0 := cellB sB e1
          have y1 := cellB sB q1
          have y2 := cellB sB b0
          have y3 := cellB sB b1
          have y4 := cellB sB b2
          have y5 := cellB sB b3
          try simp only [List.getElem_toArray, List.getElem_cons_succ, List.getElem_cons_zero]
          go_simp
          try with_reducible rfl
        try simp only [Act.put, List.setIfInBounds_toArray, List.set_cons_zero, List.set_cons_succ]
        refine Stg.wpAnyL_one (i := 8) 1 rfl (by kernel_rfl) (by kernel_rfl) (fun K hK => ?_)
        try simp only [List.getElem_toArray, List.getElem_cons_succ, List.getElem_cons_zero]
        go_simp
        refine (hpush.out _ (hHeld rfl)).mono ?_
        rintro e w9 ⟨rfl, hPQ, hKF⟩
        replace hKF := Lib.hid ((By.KF.of (hHeld rfl)).trans hKF)
        refine hK.out _ _ ?_ (fun hHeld1 => ?_)
        · exact fun h => absurd h (by decide)
        clear hK K
        try simp only [Act.put, List.setIfInBounds_toArray, List.set_cons_zero, List.set_cons_succ]
        refine Stg.wpAnyL_start (n' := 1) (l' := #[true, true, true, true, true, true, true, true, true, false]) (by kernel_rfl) (by kernel_rfl) ?_
        refine Stg.wpAnyL_free (i := 9) (v := ?_) 1 rfl (by kernel_rfl) (by kernel_rfl) (by kernel_rfl) (by kernel_rfl) (by kernel_rfl) (fun _ _ _ h => h) (Or.inl ⟨by kernel_rfl, ?_⟩) (by assumption) ?_
        rotate_left
        · intro u _
          try simp only [List.getElem_toArray, List.getElem_cons_succ, List.getElem_cons_zero]
          go_simp
          try with_reducible rfl
        try simp only [Act.put, List.setIfInBounds_toArray, List.set_cons_zero, List.set_cons_succ]
        refine Stg.wpAnyL_done (by kernel_rfl) ?_ _
        try simp only [List.getElem_toArray, List.getElem_cons_succ, List.getElem_cons_zero]
        try simp only [Act.put, List.setIfInBounds_toArray, List.set_cons_zero, List.set_cons_succ]
        refine NoPanic.normal ?_
        clear e1 q1 b0 b1 b2 b3 hpush
        clear hHeld hHeld1
        have hS9 := (hS6.out.queue hkN (G' := { G with dr := upn G.dr k (G.dr k + 1), n := G.n + 1 }) hKF.out hPQ (funext fun i => by unfold upQ; split; rename_i e; rw [e]; rfl) rfl rfl rfl rfl rfl rfl (fun p hp => hS.out.pk k hkN p hp) (by
          have a := hcmI.out
          show G.p + totQ G.Q I.N ≤ G.n + 1
          omega) ⟨Nat.le_succ _, hG.out⟩ (by have := hcmI.out.2.2.1 k hkN; show G.dr k + 1 ≤ G.n + 1; omega))
        have hF : InP I L d G w (.returned (.tuple #[.int .i64 0, .int .i64 100])) w9 := by
          refine ⟨.inr ⟨fun q => by have := q.2.2; rw [hkd.out] at this; omega, 100, by decide, _, rfl, ⟨tb, ct, _, kd, hS9⟩, rfl, rfl, rfl, rfl, rfl, Nat.le_refl _⟩, ((By.KF.of hB6.out).trans (hKF.out.sub (fun q hq => ?_)))⟩
          simp at hq
          exact Ids.mem_ns.2 (.inr (.inr (.inr ⟨k, hkN, hq⟩)))
        replace hF := Lib.hid hF
        clear hS9 hPQ
        go_wp2_with fail
        exact bodyPost_ret (v := .tuple #[.int .i64 0, .int .i64 100]) (by simp [results, Try.results11, go_sem]) rfl hF.out
    · have hF := Lib.hid (hno.out fe w5 (fun q => hfe0 (by have := q.2.1; unfold dT dC at this; rw [ht1.out, ht2.out, hfe.out] at this; exact this)) hfe0 hB5.out)
      have hbb : (fe == 0) = false := by simpa using hfe0
      have hbc : (fe != 0) = true := by simpa using hfe0
      go_wp2_with fail
      exact bodyPost_ret (v := .tuple #[.int .i64 0, .int .i64 fe]) (by simp [results, Try.results11, go_sem]) rfl hF.out
  · have hF := Lib.hid (hno.out 230 (w1.alloc (.cells #[.int .i64 0, .int .i64 0, .int .i64 0, .slice none 0 0] 38)) (fun q => hg q.1) (by decide) (hb1.alloc hb1.size _))
    clear hb1
    go_wp2_with fail
    exact bodyPost_ret (v := .tuple #[.int .i64 0, .int .i64 230]) (by simp [results, Try.results11, go_sem]) rfl hF.out
end Go.Proofs.Ytkefkophlhcbiaa
