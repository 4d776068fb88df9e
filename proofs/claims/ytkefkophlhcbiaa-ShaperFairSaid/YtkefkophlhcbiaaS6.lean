/- The shaper: the pump. -/
import Derived.Test.YtkefkophlhcbiaaS5
namespace Go.Proofs.Ytkefkophlhcbiaa
open Go.ChangeShapes Go.WideShapes Go.ChangeAt Go.RowKit
set_option linter.unusedVariables false
set_option linter.unusedSimpArgs false
open BigFrame Pk Sh Fa Fq
open Vr hiding cellB
open By (Byt RowG blkO)
open Fp (Pt PQ PqP PopQ OutP)
open Bs (cellB)
attribute [local go_sem] Bs.max_fold Bs.min_fold

namespace Sh
/-- What a pump leaves. -/
def PumpP (I : Ids) (L : List Nat) (b : Int) (G : Gs) (w : World) (e : Ending) (w' : World) : Prop :=
  ∃ (out : List (Nat × Pt)) (G1 G2 : Gs) (la lb : Option Addr) (ca cb : Nat) (vs : List Value), Run I (startG b G) out G1 ∧ Done I G1 G2 ∧ e = .returned (.tuple #[.slice la out.length ca, .slice lb out.length cb]) ∧ SHP I G2 L w' ∧ OutR w' w.heap.size la ca lb cb out vs ∧ By.KF I.ns w w'
/-- A pump under way. -/
structure PmpA (I : Ids) (L : List Nat) (G0 G1 : Gs) (w wr : World) (bx : Nat) (la lb : Option Addr) (ca cb : Nat) (out : List (Nat × Pt)) (vs : List Value) : Prop where
  r : Run I G0 out G1
  s : SHP I G1 (blkO la ++ (blkO lb ++ L)) wr
  o : OutR wr (bx + 1) la ca lb cb out vs
  k : By.KF I.ns w wr
  x : wr.cell? ⟨bx, 0, none⟩ = some (.pointer (some ⟨I.s, 0, none⟩))
  a : G1.p + 1 + totQ G1.Q I.N ≤ G1.n ∧ out.length + totQ G1.Q I.N = totQ G0.Q I.N
  bx : bx = w.heap.size
/-- The caller's rows grow. -/
theorem SH.grow {I : Ids} {G : Gs} {L : List Nat} {w w' : World} {tb ct : Nat} {pos kd : Nat → Nat} (h : SH I G L w tb ct pos kd) {M N : List Nat} (k : By.KF M w w') (hM : ∀ q, q ∈ M → q ∈ L) (hN : ∀ q, q ∈ N → q ∈ L ∨ (w.heap.size ≤ q ∧ q < w'.heap.size)) : ∃ kd', SH I G (N ++ L) w' tb ct pos kd' := by
  have h' := h.foreign k hM
  have hk := h.k
  have htb : tb < w.heap.size := h.fd.t.hb (by have := h.fd.n1; omega)
  have old : ∀ b, b < w.heap.size → (fun b => if w.heap.size ≤ b then 7 else kd b) b = kd b := fun b hb => if_neg (by omega)
  refine ⟨fun b => if w.heap.size ≤ b then 7 else kd b, h'.b, h'.fl, h'.qr, fun i hi => ?_, fun q hq => ?_, h'.fd, h'.inv, ?_, fun i hi => ?_, h.ten, h.tk, h.lk, h.pk, h.acc⟩
  · have e := (h.pq i hi).ns (ns2 := I.ns ++ (N ++ L)) (fun q hq => by
      rcases List.mem_append.1 hq with z | z
      · exact .inr (List.mem_append_left _ z)
      · rcases List.mem_append.1 z with z | z
        · rcases hN q z with y | y
          · exact .inr (List.mem_append_right _ y)
          · exact .inl y.1
        · exact .inr (List.mem_append_right _ z))
    have hki := h.kq i hi
    have nm : ∀ b, kd b ≠ 7 → b ∉ M := fun b h1 q => h1 (h.li b (hM b q)).2
    exact e.kf k (fun q hq => List.mem_append_right _ (List.mem_append_right _ (hM q hq))) (nm _ (by omega)) (nm _ (by omega))
  · rcases List.mem_append.1 hq with z | z
    · rcases hN q z with y | y
      · exact ⟨(h'.li q y).1, (old q (h.li q y).1).trans (h.li q y).2⟩
      · exact ⟨y.2, if_pos y.1⟩
    · exact ⟨(h'.li q z).1, (old q (h.li q z).1).trans (h.li q z).2⟩
  · exact ⟨(old _ h.b.l).trans hk.1, (old _ h.fbl).trans hk.2.1, (old _ h.qrl).trans hk.2.2.1, (old _ h.fd.b.l).trans hk.2.2.2.1, (old _ h.fd.l.l).trans hk.2.2.2.2.1, (old _ htb).trans hk.2.2.2.2.2⟩
  · have hl := (h.pq i hi).lt
    exact ⟨(old _ hl.1).trans (h.kq i hi).1, (old _ hl.2).trans (h.kq i hi).2⟩
theorem OutR.mono {w : World} {B B' : Nat} {la lb : Option Addr} {ca cb : Nat} {out : List (Nat × Pt)} {vs : List Value} (h : OutR w B la ca lb cb out vs) (hB : B' ≤ B) : OutR w B' la ca lb cb out vs :=
  ⟨h.s, h.b, fun j kp hj => by
    obtain ⟨g, c, h1, h2, h3, h4⟩ := h.y j kp hj
    exact ⟨g, c, h1, h2, by omega, h4⟩, fun q hq => by have := h.fa q hq; omega, fun q hq => by have := h.fb q hq; omega, h.ne⟩
theorem kf_far {l M : List Nat} {u v x : World} (h : By.KF l u v) (k : By.KF M v x) (hM : ∀ q, q ∈ M → u.heap.size ≤ q) : By.KF l u x :=
  ⟨h.b.trans k.b, fun i h1 h2 => (k.k i (Nat.lt_of_lt_of_le h1 h.size) (fun z => by have := hM i z; omega)).trans (h.k i h1 h2)⟩
theorem inv_next {I : Ids} {G : Gs} (h : Inv (PM * (G.p : Nat)) I.ALL G.x.V I.N I.W G.x.Z G.x.D G.x.S G.x.F) (hh : ∀ i, i < I.N → headBad (hd I G i) = false) :
    Inv (PM * ((noG I G).p : Nat)) I.ALL (noG I G).x.V I.N I.W (noG I G).x.Z (noG I G).x.D (noG I G).x.S (noG I G).x.F := by
  have q := h.pick hh
  have e : PM * ((noG I G).p : Nat) = PM * (G.p : Nat) + PM := by
    show PM * ((G.p + 1 : Nat) : Int) = _
    rw [Int.natCast_succ, Int.mul_add, Int.mul_one]
  rw [e]
  exact q
end Sh
set_option maxRecDepth 100000 in
set_option maxHeartbeats 16000000 in
theorem pump_c {I : Ids} {G : Gs} {L : List Nat} {w : World} (b : Int) (h : SHP I G L w) (hG : G.n + 1 ≤ 6000) (hb : (Lit.int .i64 b).wf = true) :
    Calls Try.prog 15 #[.pointer (some ⟨I.s, 0, none⟩), .int .i64 b] w (PumpP I L b G w) := by
  obtain ⟨tb, ct, pos, kd, hS⟩ := h
  have hsl := hS.b.l
  have hlk := hS.lk
  obtain ⟨lk, hlkE⟩ : ∃ y, RowKit.Hid (G.link = y) := ⟨_, Lib.hid rfl⟩
  rw [hlkE.out] at hlk
  obtain ⟨hl0, hl1⟩ := hlk
  have eb : (w.alloc (.cells #[.pointer (some ⟨I.s, 0, none⟩)] 27)).cell? ⟨w.heap.size, 0, none⟩ = some (.pointer (some ⟨I.s, 0, none⟩)) := by go_simp
  have hBa := (Below.refl w.heap.size w).alloc (Nat.le_refl _) (.cells #[.pointer (some ⟨I.s, 0, none⟩)] 27)
  have hSa := hS.bel hBa
  have c20 := hSa.c3.2.2.2.1
  rw [hlkE.out] at c20
  have f20 := hSa.b.f 20
  have heb := Lib.hid eb
  replace hS := Lib.hid hS
  replace hSa := Lib.hid hSa
  replace hBa := Lib.hid hBa
  replace hG := Lib.hid hG
  obtain ⟨bx, hbx⟩ : ∃ y, RowKit.Hid (w.heap.size = y) := ⟨_, Lib.hid rfl⟩
  have hsbx : I.s < bx := by rw [← hbx.out]; exact hsl
  go_enter Try.func15, Try.ntmps15
  go_upto_region 3 with fail
  go_step3
  go_upto_region 3 with fail
  rw [hbx.out] at eb heb
  rw [hbx.out]
  generalize (w.alloc (.cells #[.pointer (some ⟨I.s, 0, none⟩)] 27)) = U at eb heb hBa hSa c20 f20 ⊢
  obtain ⟨b2, hb2⟩ : ∃ y, RowKit.Hid (min (max b 0) 1048576 = y) := ⟨_, Lib.hid rfl⟩
  have hb20 : 0 ≤ b2 ∧ b2 ≤ 1048576 := by rw [← hb2.out]; omega
  obtain ⟨hb20, hb21⟩ := hb20
  have z1 : lk + b2 ≤ 9223372036854775807 := by omega
  have z2 : -9223372036854775808 ≤ lk + b2 := by omega
  have hmx : max b 0 ≤ 9223372036854775807 ∧ 0 ≤ max b 0 := by
    simp [Lit.wf, IntKind.min, IntKind.max, IntKind.signed, IntKind.bits] at hb
    omega
  refine wp_region_noPanic ?_
  refine Stg.wp_region_L [12] (Bs.SB U) (by kernel_rfl) (fun _ => (Below.refl _ _).drew) (fun hHeld => ?_)
  refine Stg.wpAnyL_start (n' := 13) (l' := #[false, false, false, false, false, false, false, false, false, false, false, false, false]) (by kernel_rfl) (by kernel_rfl) ?_
  refine Stg.wpAnyL_take (i := 0) (v := ?_) [10, 11, 12] 0 rfl (by kernel_rfl) (by kernel_rfl) (by kernel_rfl) (by kernel_rfl) (by kernel_rfl) (fun _ _ _ h => h) (Or.inl ⟨by kernel_rfl, ?_⟩) (by assumption) ?_
  rotate_left
  · intro u hSu
    skip
    have sB := hSu rfl
    have y0 := cellB sB eb
    have y1 := cellB sB c20
    try simp only [List.getElem_toArray, List.getElem_cons_succ, List.getElem_cons_zero]
    go_simp
    try with_reducible rfl
  try simp only [Act.put, List.setIfInBounds_toArray, List.set_cons_zero, List.set_cons_succ]
  refine Stg.wpAnyL_take (i := 1) (v := ?_) [2, 3, 4, 8, 9, 10, 11, 12] 0 rfl (by kernel_rfl) (by kernel_rfl) (by kernel_rfl) (by kernel_rfl) (by kernel_rfl) (fun _ _ _ h => h) (Or.inl ⟨by kernel_rfl, ?_⟩) (by assumption) ?_
  rotate_left
  · intro u hSu
    skip
    have sB := hSu rfl
    have y0 := cellB sB eb
    have y1 := cellB sB c20
    try simp only [List.getElem_toArray, List.getElem_cons_succ, List.getElem_cons_zero]
    go_simp
    try with_reducible rfl
  try simp only [Act.put, List.setIfInBounds_toArray, List.set_cons_zero, List.set_cons_succ]
  refine Stg.wpAnyL_free (i := 2) (v := ?_) 0 rfl (by kernel_rfl) (by kernel_rfl) (by kernel_rfl) (by kernel_rfl) (by kernel_rfl) (fun _ _ _ h => h) (Or.inl ⟨by kernel_rfl, ?_⟩) (by assumption) ?_
  rotate_left
  · intro u _
    try simp only [List.getElem_toArray, List.getElem_cons_succ, List.getElem_cons_zero]
    go_simp
    try with_reducible rfl
  try simp only [Act.put, List.setIfInBounds_toArray, List.set_cons_zero, List.set_cons_succ]
  refine Stg.wpAnyL_start (n' := 10) (l' := #[true, true, true, false, false, false, false, false, false, false, false, false, false]) (by kernel_rfl) (by kernel_rfl) ?_
  refine Stg.wpAnyL_free (i := 3) (v := ?_) 0 rfl (by kernel_rfl) (by kernel_rfl) (by kernel_rfl) (by kernel_rfl) (by kernel_rfl) (fun _ _ _ h => h) (Or.inl ⟨by kernel_rfl, ?_⟩) (by assumption) ?_
  rotate_left
  · intro u _
    try simp only [List.getElem_toArray, List.getElem_cons_succ, List.getElem_cons_zero]
    go_simp
    try with_reducible rfl
  try simp only [Act.put, List.setIfInBounds_toArray, List.set_cons_zero, List.set_cons_succ]
  refine Stg.wpAnyL_take (i := 4) (v := ?_) [8, 9, 10, 11, 12] 0 rfl (by kernel_rfl) (by kernel_rfl) (by kernel_rfl) (by kernel_rfl) (by kernel_rfl) (fun _ _ _ h => h) (Or.inl ⟨by kernel_rfl, ?_⟩) (by assumption) ?_
  rotate_left
  · intro u hSu
    skip
    have sB := hSu rfl
    have y0 := cellB sB eb
    have y1 := cellB sB c20
    try simp only [List.getElem_toArray, List.getElem_cons_succ, List.getElem_cons_zero]
    go_simp
    try with_reducible rfl
  try simp only [Act.put, List.setIfInBounds_toArray, List.set_cons_zero, List.set_cons_succ]
  refine Stg.wpAnyL_free (i := 5) (v := ?_) 0 rfl (by kernel_rfl) (by kernel_rfl) (by kernel_rfl) (by kernel_rfl) (by kernel_rfl) (fun _ _ _ h => h) (Or.inl ⟨by kernel_rfl, ?_⟩) (by assumption) ?_
  rotate_left
  · intro u _
    try simp only [List.getElem_toArray, List.getElem_cons_succ, List.getElem_cons_zero]
    go_simp
    try with_reducible rfl
  try simp only [Act.put, List.setIfInBounds_toArray, List.set_cons_zero, List.set_cons_succ]
  refine Stg.wpAnyL_start (n' := 7) (l' := #[true, true, true, true, true, true, false, false, false, false, false, false, false]) (by kernel_rfl) (by kernel_rfl) ?_
  refine Stg.wpAnyL_free (i := 6) (v := ?_) 0 rfl (by kernel_rfl) (by kernel_rfl) (by kernel_rfl) (by kernel_rfl) (by kernel_rfl) (fun _ _ _ h => h) (Or.inl ⟨by kernel_rfl, ?_⟩) (by assumption) ?_
  rotate_left
  · intro u _
    try simp only [List.getElem_toArray, List.getElem_cons_succ, List.getElem_cons_zero]
    go_simp
    try with_reducible rfl
  try simp only [Act.put, List.setIfInBounds_toArray, List.set_cons_zero, List.set_cons_succ]
  refine Stg.wpAnyL_free (i := 7) (v := ?_) 0 rfl (by kernel_rfl) (by kernel_rfl) (by kernel_rfl) (by kernel_rfl) (by kernel_rfl) (fun _ _ _ h => h) (Or.inl ⟨by kernel_rfl, ?_⟩) (by assumption) ?_
  rotate_left
  · intro u _
    try simp only [List.getElem_toArray, List.getElem_cons_succ, List.getElem_cons_zero]
    go_simp
    try with_reducible rfl
  try simp only [Act.put, List.setIfInBounds_toArray, List.set_cons_zero, List.set_cons_succ]
  refine Stg.wpAnyL_free (i := 8) (v := ?_) 0 rfl (by kernel_rfl) (by kernel_rfl) (by kernel_rfl) (by kernel_rfl) (by kernel_rfl) (fun _ _ _ h => h) (Or.inl ⟨by kernel_rfl, ?_⟩) (by assumption) ?_
  rotate_left
  · intro u _
    try simp only [List.getElem_toArray, List.getElem_cons_succ, List.getElem_cons_zero]
    go_simp
    try with_reducible rfl
  try simp only [Act.put, List.setIfInBounds_toArray, List.set_cons_zero, List.set_cons_succ]
  refine Stg.wpAnyL_start (n' := 4) (l' := #[true, true, true, true, true, true, true, true, true, false, false, false, false]) (by kernel_rfl) (by kernel_rfl) ?_
  refine Stg.wpAnyL_free (i := 9) (v := ?_) 0 rfl (by kernel_rfl) (by kernel_rfl) (by kernel_rfl) (by kernel_rfl) (by kernel_rfl) (fun _ _ _ h => h) (Or.inl ⟨by kernel_rfl, ?_⟩) (by assumption) ?_
  rotate_left
  · intro u _
    try simp only [List.getElem_toArray, List.getElem_cons_succ, List.getElem_cons_zero]
    go_simp
    try with_reducible rfl
  try simp only [Act.put, List.setIfInBounds_toArray, List.set_cons_zero, List.set_cons_succ]
  refine Stg.wpAnyL_free (i := 10) (v := ?_) 0 rfl (by kernel_rfl) (by kernel_rfl) (by kernel_rfl) (by kernel_rfl) (by kernel_rfl) (fun _ _ _ h => h) (Or.inl ⟨by kernel_rfl, ?_⟩) (by assumption) ?_
  rotate_left
  · intro u _
    try simp only [List.getElem_toArray, List.getElem_cons_succ, List.getElem_cons_zero]
    go_simp
    try with_reducible rfl
  try simp only [Act.put, List.setIfInBounds_toArray, List.set_cons_zero, List.set_cons_succ]
  refine Stg.wpAnyL_free (i := 11) (v := ?_) 0 rfl (by kernel_rfl) (by kernel_rfl) (by kernel_rfl) (by kernel_rfl) (by kernel_rfl) (fun _ _ _ h => h) (Or.inl ⟨by kernel_rfl, ?_⟩) (by assumption) ?_
  rotate_left
  · intro u _
    try simp only [List.getElem_toArray, List.getElem_cons_succ, List.getElem_cons_zero]
    go_simp
    try with_reducible rfl
  try simp only [Act.put, List.setIfInBounds_toArray, List.set_cons_zero, List.set_cons_succ]
  refine Stg.wpAnyL_start (n' := 1) (l' := #[true, true, true, true, true, true, true, true, true, true, true, true, false]) (by kernel_rfl) (by kernel_rfl) ?_
  refine Stg.wpAnyL_one (i := 12) 1 rfl (by kernel_rfl) (by kernel_rfl) (fun K hK => ?_)
  have z20 := cellB (hHeld rfl) c20
  have zf20 := ((hHeld rfl).frozen (p := ⟨I.s, 20, none⟩) (World.block_lt_of_cell? _ _ c20)).trans f20
  try simp only [List.getElem_toArray, List.getElem_cons_succ, List.getElem_cons_zero]
  go_simp
  refine hK.out _ _ ?_ (fun hHeld1 => ?_)
  · exact fun h => absurd h (by decide)
  clear hK K
  try simp only [Act.put, List.setIfInBounds_toArray, List.set_cons_zero, List.set_cons_succ]
  refine Stg.wpAnyL_done (by kernel_rfl) ?_ _
  try simp only [List.getElem_toArray, List.getElem_cons_succ, List.getElem_cons_zero]
  try simp only [Act.put, List.setIfInBounds_toArray, List.set_cons_zero, List.set_cons_succ]
  refine NoPanic.normal ?_
  clear z20 zf20
  clear hHeld eb c20 f20
  have hwr : IntKind.i64.wrap (lk + min (max b 0) 1048576) = lk + min (max b 0) 1048576 := IntWalk.i64_in (lk + min (max b 0) 1048576) (by rw [hb2.out]; omega)
  rw [hwr]
  obtain ⟨ln, hln⟩ : ∃ y, RowKit.Hid (min (lk + min (max b 0) 1048576) 1048576 = y) := ⟨_, Lib.hid rfl⟩
  rw [hln.out]
  have hlnb : -1500 ≤ ln ∧ ln ≤ 1048576 := by rw [← hln.out, hb2.out]; omega
  obtain ⟨G0, hG0⟩ : ∃ y, RowKit.Hid (startG b G = y) := ⟨_, Lib.hid rfl⟩
  have hS1 : RowKit.Hid (SH I G0 L ((U.setCell ⟨I.s, 20, none⟩ (.int .i64 ln)).drew) tb ct pos kd) := Lib.hid (by
    have a := hSa.out.acc
    have q := hSa.out.store (G' := startG b G) (o := 20) (v := .int .i64 ln) (by omega) (by rw [shC_setLink]; refine shC_same rfl ?_ rfl; show ln = _; rw [← hln.out, ← hlkE.out]; rfl) rfl rfl rfl rfl hSa.out.tk (by
      have e : (startG b G).link = ln := by rw [← hln.out, ← hlkE.out]; rfl
      rw [e]; exact hlnb) ⟨Nat.le_succ _, hG.out⟩ (Nat.le_succ_of_le a.2.1)
    rw [hG0.out] at q
    exact q.bel (Below.refl _ _).drew)
  have hK1 : RowKit.Hid (By.KF I.ns w ((U.setCell ⟨I.s, 20, none⟩ (.int .i64 ln)).drew)) := Lib.hid (((By.KF.of hBa.out).set (.inl (Ids.mem_ns.2 (.inl rfl))) _).drew)
  have hx1 : RowKit.Hid (((U.setCell ⟨I.s, 20, none⟩ (.int .i64 ln)).drew).cell? ⟨bx, 0, none⟩ = some (.pointer (some ⟨I.s, 0, none⟩))) := Lib.hid (by
    have e : U.cell? ⟨bx, 0, none⟩ = some (.pointer (some ⟨I.s, 0, none⟩)) := heb.out
    exact (World.cell?_setCell_other _ _ _ _ (by simp <;> omega)).trans e)
  have hacc : RowKit.Hid (G0.p + 1 + totQ G0.Q I.N ≤ G0.n) := Lib.hid (by
    have a := hSa.out.acc
    rw [← hG0.out]
    show G.p + 1 + totQ G.Q I.N ≤ G.n + 1
    omega)
  obtain ⟨T0, hT0⟩ : ∃ y, RowKit.Hid (totQ G0.Q I.N = y) := ⟨_, Lib.hid rfl⟩
  have hT06 : T0 ≤ 6000 := by have := hacc.out; have := hS1.out.acc.2.2.2; have := hT0.out; omega
  generalize ((U.setCell ⟨I.s, 20, none⟩ (.int .i64 ln)).drew) = U1 at hS1 hK1 hx1 ⊢
  clear hwr hlkE hl0 hl1 z1 z2 hmx hb20 hb21 hlnb
  go_wp2_with fail
  go_step3
  go_wp2_with fail
  go_loopw [6, 7, 9, 10, 11, 12, 13, 14, 15] (fun s6 s7 _ _ _ _ _ _ _ wr => ∃ (G1 : Gs) (out : List (Nat × Pt)) (la lb : Option Addr) (ca cb n : Nat) (vs : List Value), s6 = .slice la n ca ∧ s7 = .slice lb n cb ∧ RowKit.Hid (out.length = n) ∧ n ≤ T0 ∧ RowKit.Hid (PmpA I L G0 G1 w wr bx la lb ca cb out vs)) (fun s6 _ _ _ _ _ _ _ _ _ => T0 + 1 - lenOf s6)
  case atStart => exact ⟨G0, [], none, none, 0, 0, 0, [], rfl, rfl, Lib.hid rfl, Nat.zero_le _, Lib.hid ⟨.nil _, ⟨tb, ct, pos, kd, by simpa [blkO] using hS1.out⟩, OutR.emp _ _, hK1.out, hx1.out, ⟨hacc.out, by simp⟩, hbx.out.symm⟩⟩
  case round =>
    clear hS1 hK1 hx1 hacc
    obtain ⟨G1, out, la, lb, ca, cb, n, vs, rfl, rfl, hn, hnT, hA⟩ := hrel
    obtain ⟨W, rfl⟩ : ∃ W : World, W = wr := ⟨_, rfl⟩
    obtain ⟨tb1, ct1, pos1, kd1, hS1⟩ := hA.out.s
    obtain ⟨_, _, e2, e20, _⟩ := hS1.c3
    have eb := hA.out.x
    obtain ⟨lk1, hlk1⟩ : ∃ y, RowKit.Hid (G1.link = y) := ⟨_, Lib.hid rfl⟩
    rw [hlk1.out] at e20
    replace hS1 := Lib.hid hS1
    by_cases hlink : 0 < lk1
    · have hheads := Lib.hid (fun (u : World) (hu : Below W.heap.size W u) => heads_c bx ⟨tb1, ct1, pos1, kd1, hS1.out.bel hu⟩ ((hu.cell (p := ⟨bx, 0, none⟩) (World.block_lt_of_cell? _ _ eb)).trans eb))
      have hpick : ∀ (u : World) (g : Nat), Below W.heap.size W u → TagsAt u (some ⟨g, 0, none⟩) g 0 I.N (hd I G1) I.W → W.heap.size ≤ g → Calls Try.prog 34 #[.pointer (some ⟨I.f, 0, none⟩), .slice (some ⟨g, 0, none⟩) I.N I.N] u (PickQ (pk I G1) tb1 I.f I.lb I.cl I.N I.ALL I.W u) := fun u g hu T hg => by
        have q := hS1.out.bel hu
        have a := hS1.out.acc
        have l1 := hS1.out.fd.b.l
        have l2 := hS1.out.fd.l.l
        exact fpick_ok q.fd q.inv (by unfold PM; omega) g 0 I.N (hd I G1) I.W T (by omega) (by omega) (hd_ok q.pk)
      replace hpick := Lib.hid hpick
      go_upto_region 8 with fail
      refine wp_region_noPanic ?_
      refine Stg.wp_region_L [6] (Bs.SB W) (by kernel_rfl) (fun _ => (Below.refl _ _).drew) (fun hHeld => ?_)
      refine Stg.wpAnyL_start (n' := 12) (l' := #[false, false, false, false, false, false, false, false, false, false, false, false]) (by kernel_rfl) (by kernel_rfl) ?_
      refine Stg.wpAnyL_take (i := 0) (v := ?_) [1, 2, 3, 6, 7, 8, 9, 10, 11] 0 rfl (by kernel_rfl) (by kernel_rfl) (by kernel_rfl) (by kernel_rfl) (by kernel_rfl) (fun _ _ _ h => h) (Or.inl ⟨by kernel_rfl, ?_⟩) (by assumption) ?_
      rotate_left
      · intro u hSu
        skip
        have sB := hSu rfl
        have y0 := cellB sB eb
        have y1 := cellB sB e2
        try simp only [List.getElem_toArray, List.getElem_cons_succ, List.getElem_cons_zero]
        go_simp
        try with_reducible rfl
      try simp only [Act.put, List.setIfInBounds_toArray, List.set_cons_zero, List.set_cons_succ]
      refine Stg.wpAnyL_free (i := 1) (v := ?_) 0 rfl (by kernel_rfl) (by kernel_rfl) (by kernel_rfl) (by kernel_rfl) (by kernel_rfl) (fun _ _ _ h => h) (Or.inl ⟨by kernel_rfl, ?_⟩) (by assumption) ?_
      rotate_left
      · intro u _
        try simp only [List.getElem_toArray, List.getElem_cons_succ, List.getElem_cons_zero]
        go_simp
        try with_reducible rfl
      try simp only [Act.put, List.setIfInBounds_toArray, List.set_cons_zero, List.set_cons_succ]
      refine Stg.wpAnyL_free (i := 2) (v := ?_) 0 rfl (by kernel_rfl) (by kernel_rfl) (by kernel_rfl) (by kernel_rfl) (by kernel_rfl) (fun _ _ _ h => h) (Or.inl ⟨by kernel_rfl, ?_⟩) (by assumption) ?_
      rotate_left
      · intro u _
        try simp only [List.getElem_toArray, List.getElem_cons_succ, List.getElem_cons_zero]
        go_simp
        try with_reducible rfl
      try simp only [Act.put, List.setIfInBounds_toArray, List.set_cons_zero, List.set_cons_succ]
      refine Stg.wpAnyL_start (n' := 9) (l' := #[true, true, true, false, false, false, false, false, false, false, false, false]) (by kernel_rfl) (by kernel_rfl) ?_
      refine Stg.wpAnyL_take (i := 3) (v := ?_) [6, 7, 8, 9, 10, 11] 0 rfl (by kernel_rfl) (by kernel_rfl) (by kernel_rfl) (by kernel_rfl) (by kernel_rfl) (fun _ _ _ h => h) (Or.inl ⟨by kernel_rfl, ?_⟩) (by assumption) ?_
      rotate_left
      · intro u hSu
        skip
        have sB := hSu rfl
        have y0 := cellB sB eb
        have y1 := cellB sB e2
        try simp only [List.getElem_toArray, List.getElem_cons_succ, List.getElem_cons_zero]
        go_simp
        try with_reducible rfl
      try simp only [Act.put, List.setIfInBounds_toArray, List.set_cons_zero, List.set_cons_succ]
      refine Stg.wpAnyL_free (i := 4) (v := ?_) 0 rfl (by kernel_rfl) (by kernel_rfl) (by kernel_rfl) (by kernel_rfl) (by kernel_rfl) (fun _ _ _ h => h) (Or.inl ⟨by kernel_rfl, ?_⟩) (by assumption) ?_
      rotate_left
      · intro u _
        try simp only [List.getElem_toArray, List.getElem_cons_succ, List.getElem_cons_zero]
        go_simp
        try with_reducible rfl
      try simp only [Act.put, List.setIfInBounds_toArray, List.set_cons_zero, List.set_cons_succ]
      refine Stg.wpAnyL_one (i := 5) 0 rfl (by kernel_rfl) (by kernel_rfl) (fun K hK => ?_)
      try simp only [List.getElem_toArray, List.getElem_cons_succ, List.getElem_cons_zero]
      go_simp
      refine (hheads.out _ (hHeld rfl)).mono ?_
      rintro e w3 ⟨g, rfl, hT, hg, hb1⟩
      have hg3 : W.heap.size ≤ g := Nat.le_trans (hHeld rfl).size hg
      refine hK.out _ _ ?_ (fun hHeld1 => ?_)
      · exact fun _ => bNext (hHeld rfl) hb1 (Nat.le_refl _)
      clear hK K
      try simp only [Act.put, List.setIfInBounds_toArray, List.set_cons_zero, List.set_cons_succ]
      refine Stg.wpAnyL_start (n' := 6) (l' := #[true, true, true, true, true, true, false, false, false, false, false, false]) (by kernel_rfl) (by kernel_rfl) ?_
      refine Stg.wpAnyL_one (i := 6) 1 rfl (by kernel_rfl) (by kernel_rfl) (fun K hK => ?_)
      try simp only [List.getElem_toArray, List.getElem_cons_succ, List.getElem_cons_zero]
      go_simp
      have h3 := hHeld1 rfl
      refine (hpick.out _ g h3 hT hg3).mono ?_
      rintro e w4 ⟨tb4, ct4, rfl, hfd4, htb4, hk4⟩
      refine hK.out _ _ ?_ (fun hHeld2 => ?_)
      · exact fun h => absurd h (by decide)
      clear hK K
      try simp only [Act.put, List.setIfInBounds_toArray, List.set_cons_zero, List.set_cons_succ]
      refine Stg.wpAnyL_free (i := 7) (v := ?_) 1 rfl (by kernel_rfl) (by kernel_rfl) (by kernel_rfl) (by kernel_rfl) (by kernel_rfl) (fun _ _ _ h => h) (Or.inl ⟨by kernel_rfl, ?_⟩) (by assumption) ?_
      rotate_left
      · intro u _
        try simp only [List.getElem_toArray, List.getElem_cons_succ, List.getElem_cons_zero]
        go_simp
        try with_reducible rfl
      try simp only [Act.put, List.setIfInBounds_toArray, List.set_cons_zero, List.set_cons_succ]
      refine Stg.wpAnyL_free (i := 8) (v := ?_) 1 rfl (by kernel_rfl) (by kernel_rfl) (by kernel_rfl) (by kernel_rfl) (by kernel_rfl) (fun _ _ _ h => h) (Or.inl ⟨by kernel_rfl, ?_⟩) (by assumption) ?_
      rotate_left
      · intro u _
        try simp only [List.getElem_toArray, List.getElem_cons_succ, List.getElem_cons_zero]
        go_simp
        try with_reducible rfl
      try simp only [Act.put, List.setIfInBounds_toArray, List.set_cons_zero, List.set_cons_succ]
      refine Stg.wpAnyL_start (n' := 3) (l' := #[true, true, true, true, true, true, true, true, true, false, false, false]) (by kernel_rfl) (by kernel_rfl) ?_
      refine Stg.wpAnyL_free (i := 9) (v := ?_) 1 rfl (by kernel_rfl) (by kernel_rfl) (by kernel_rfl) (by kernel_rfl) (by kernel_rfl) (fun _ _ _ h => h) (Or.inl ⟨by kernel_rfl, ?_⟩) (by assumption) ?_
      rotate_left
      · intro u _
        try simp only [List.getElem_toArray, List.getElem_cons_succ, List.getElem_cons_zero]
        go_simp
        try with_reducible rfl
      try simp only [Act.put, List.setIfInBounds_toArray, List.set_cons_zero, List.set_cons_succ]
      refine Stg.wpAnyL_free (i := 10) (v := ?_) 1 rfl (by kernel_rfl) (by kernel_rfl) (by kernel_rfl) (by kernel_rfl) (by kernel_rfl) (fun _ _ _ h => h) (Or.inl ⟨by kernel_rfl, ?_⟩) (by assumption) ?_
      rotate_left
      · intro u _
        try simp only [List.getElem_toArray, List.getElem_cons_succ, List.getElem_cons_zero]
        go_simp
        try with_reducible rfl
      try simp only [Act.put, List.setIfInBounds_toArray, List.set_cons_zero, List.set_cons_succ]
      refine Stg.wpAnyL_free (i := 11) (v := ?_) 1 rfl (by kernel_rfl) (by kernel_rfl) (by kernel_rfl) (by kernel_rfl) (by kernel_rfl) (fun _ _ _ h => h) (Or.inl ⟨by kernel_rfl, ?_⟩) (by assumption) ?_
      rotate_left
      · intro u _
        try simp only [List.getElem_toArray, List.getElem_cons_succ, List.getElem_cons_zero]
        go_simp
        try with_reducible rfl
      try simp only [Act.put, List.setIfInBounds_toArray, List.set_cons_zero, List.set_cons_succ]
      refine Stg.wpAnyL_done (by kernel_rfl) ?_ _
      try simp only [List.getElem_toArray, List.getElem_cons_succ, List.getElem_cons_zero]
      try simp only [Act.put, List.setIfInBounds_toArray, List.set_cons_zero, List.set_cons_succ]
      refine NoPanic.normal ?_
      have kW4 := (By.KF.of h3 (l := [I.f, I.lb])).trans (kf_by hk4)
      have hS3 := hS1.out.bel h3
      obtain ⟨kd4, hS4⟩ := hS3.fair (G' := noG I G1) (kf_by hk4) htb4 hfd4 (inv_next hS3.inv (hd_ok hS3.pk)) rfl rfl rfl rfl rfl (by have a := hA.out.a.1; show G1.p + 1 + totQ G1.Q I.N ≤ G1.n; omega) ⟨Nat.le_refl _, hS3.acc.2.2.2⟩
      have hfl : I.f < bx ∧ I.lb < bx := ⟨by rw [← hbx.out]; exact hS.out.fd.b.l, by rw [← hbx.out]; exact hS.out.fd.l.l⟩
      have hx4 := hS1.out.cellK kW4 eb (by simp; omega)
      have hO4 := Lib.hid (hA.out.o.kf kW4 (fun q hq => by simp at hq; omega))
      have hK4 := Lib.hid (hA.out.k.trans (kW4.sub (fun q hq => by simp at hq; exact Ids.mem_ns.2 (by rcases hq with e | e; exact .inr (.inl e); exact .inr (.inr (.inl e))))))
      replace hS4 := Lib.hid hS4
      clear hT hfd4 htb4 hk4 hb1 h3 hg3 hg kW4 hS3 eb e2 e20 hheads hpick
      clear hHeld hHeld1 hHeld2
      have hS1p := Lib.hid hS1.out.pk
      clear hS1
      obtain ⟨ok, hok⟩ : ∃ y, RowKit.Hid ((pk I G1).ok = y) := ⟨_, Lib.hid rfl⟩
      rw [hok.out]
      cases ok with
      | false =>
        have c20 := hS4.out.c3.2.2.2.1
        have e20 : (noG I G1).link = lk1 := hlk1.out
        rw [e20] at c20
        have f20 := hS4.out.b.f 20
        clear e20
        obtain ⟨pkk, hpkk⟩ : ∃ y, RowKit.Hid ((pk I G1).k = y) := ⟨_, Lib.hid rfl⟩
        rw [hpkk.out]
        go_upto_region 17 with fail
        refine wp_region_noPanic ?_
        refine Stg.wp_region_L [8] (Bs.SB w4) (by kernel_rfl) (fun _ => (Below.refl _ _).drew) (fun hHeld => ?_)
        refine Stg.wpAnyL_start (n' := 9) (l' := #[false, false, false, false, false, false, false, false, false]) (by kernel_rfl) (by kernel_rfl) ?_
        refine Stg.wpAnyL_take (i := 0) (v := ?_) [6, 7, 8] 0 rfl (by kernel_rfl) (by kernel_rfl) (by kernel_rfl) (by kernel_rfl) (by kernel_rfl) (fun _ _ _ h => h) (Or.inl ⟨by kernel_rfl, ?_⟩) (by assumption) ?_
        rotate_left
        · intro u hSu
          skip
          have sB := hSu rfl
          have y0 := cellB sB hx4
          have y1 := cellB sB c20
          try simp only [List.getElem_toArray, List.getElem_cons_succ, List.getElem_cons_zero]
          go_simp
          try with_reducible rfl
        try simp only [Act.put, List.setIfInBounds_toArray, List.set_cons_zero, List.set_cons_succ]
        refine Stg.wpAnyL_take (i := 1) (v := ?_) [2, 3, 4, 5, 6, 7, 8] 0 rfl (by kernel_rfl) (by kernel_rfl) (by kernel_rfl) (by kernel_rfl) (by kernel_rfl) (fun _ _ _ h => h) (Or.inl ⟨by kernel_rfl, ?_⟩) (by assumption) ?_
        rotate_left
        · intro u hSu
          skip
          have sB := hSu rfl
          have y0 := cellB sB hx4
          have y1 := cellB sB c20
          try simp only [List.getElem_toArray, List.getElem_cons_succ, List.getElem_cons_zero]
          go_simp
          try with_reducible rfl
        try simp only [Act.put, List.setIfInBounds_toArray, List.set_cons_zero, List.set_cons_succ]
        refine Stg.wpAnyL_free (i := 2) (v := ?_) 0 rfl (by kernel_rfl) (by kernel_rfl) (by kernel_rfl) (by kernel_rfl) (by kernel_rfl) (fun _ _ _ h => h) (Or.inl ⟨by kernel_rfl, ?_⟩) (by assumption) ?_
        rotate_left
        · intro u _
          try simp only [List.getElem_toArray, List.getElem_cons_succ, List.getElem_cons_zero]
          go_simp
          try with_reducible rfl
        try simp only [Act.put, List.setIfInBounds_toArray, List.set_cons_zero, List.set_cons_succ]
        refine Stg.wpAnyL_start (n' := 6) (l' := #[true, true, true, false, false, false, false, false, false]) (by kernel_rfl) (by kernel_rfl) ?_
        refine Stg.wpAnyL_free (i := 3) (v := ?_) 0 rfl (by kernel_rfl) (by kernel_rfl) (by kernel_rfl) (by kernel_rfl) (by kernel_rfl) (fun _ _ _ h => h) (Or.inl ⟨by kernel_rfl, ?_⟩) (by assumption) ?_
        rotate_left
        · intro u _
          try simp only [List.getElem_toArray, List.getElem_cons_succ, List.getElem_cons_zero]
          go_simp
          try with_reducible rfl
        try simp only [Act.put, List.setIfInBounds_toArray, List.set_cons_zero, List.set_cons_succ]
        refine Stg.wpAnyL_take (i := 4) (v := ?_) [5, 6, 7, 8] 0 rfl (by kernel_rfl) (by kernel_rfl) (by kernel_rfl) (by kernel_rfl) (by kernel_rfl) (fun _ _ _ h => h) (Or.inl ⟨by kernel_rfl, ?_⟩) (by assumption) ?_
        rotate_left
        · intro u hSu
          skip
          have sB := hSu rfl
          have y0 := cellB sB hx4
          have y1 := cellB sB c20
          try simp only [List.getElem_toArray, List.getElem_cons_succ, List.getElem_cons_zero]
          go_simp
          try with_reducible rfl
        try simp only [Act.put, List.setIfInBounds_toArray, List.set_cons_zero, List.set_cons_succ]
        refine Stg.wpAnyL_free (i := 5) (v := ?_) 0 rfl (by kernel_rfl) (by kernel_rfl) (by kernel_rfl) (by kernel_rfl) (by kernel_rfl) (fun _ _ _ h => h) (Or.inl ⟨by kernel_rfl, ?_⟩) (by assumption) ?_
        rotate_left
        · intro u _
          try simp only [List.getElem_toArray, List.getElem_cons_succ, List.getElem_cons_zero]
          go_simp
          try with_reducible rfl
        try simp only [Act.put, List.setIfInBounds_toArray, List.set_cons_zero, List.set_cons_succ]
        refine Stg.wpAnyL_start (n' := 3) (l' := #[true, true, true, true, true, true, false, false, false]) (by kernel_rfl) (by kernel_rfl) ?_
        refine Stg.wpAnyL_free (i := 6) (v := ?_) 0 rfl (by kernel_rfl) (by kernel_rfl) (by kernel_rfl) (by kernel_rfl) (by kernel_rfl) (fun _ _ _ h => h) (Or.inl ⟨by kernel_rfl, ?_⟩) (by assumption) ?_
        rotate_left
        · intro u _
          try simp only [List.getElem_toArray, List.getElem_cons_succ, List.getElem_cons_zero]
          go_simp
          try with_reducible rfl
        try simp only [Act.put, List.setIfInBounds_toArray, List.set_cons_zero, List.set_cons_succ]
        refine Stg.wpAnyL_free (i := 7) (v := ?_) 0 rfl (by kernel_rfl) (by kernel_rfl) (by kernel_rfl) (by kernel_rfl) (by kernel_rfl) (fun _ _ _ h => h) (Or.inl ⟨by kernel_rfl, ?_⟩) (by assumption) ?_
        rotate_left
        · intro u _
          try simp only [List.getElem_toArray, List.getElem_cons_succ, List.getElem_cons_zero]
          go_simp
          try with_reducible rfl
        try simp only [Act.put, List.setIfInBounds_toArray, List.set_cons_zero, List.set_cons_succ]
        refine Stg.wpAnyL_one (i := 8) 1 rfl (by kernel_rfl) (by kernel_rfl) (fun K hK => ?_)
        have z20 := cellB (hHeld rfl) c20
        have zf20 := ((hHeld rfl).frozen (p := ⟨I.s, 20, none⟩) (World.block_lt_of_cell? _ _ c20)).trans f20
        try simp only [List.getElem_toArray, List.getElem_cons_succ, List.getElem_cons_zero]
        go_simp
        refine hK.out _ _ ?_ (fun hHeld1 => ?_)
        · exact fun h => absurd h (by decide)
        clear hK K
        try simp only [Act.put, List.setIfInBounds_toArray, List.set_cons_zero, List.set_cons_succ]
        refine Stg.wpAnyL_done (by kernel_rfl) ?_ _
        try simp only [List.getElem_toArray, List.getElem_cons_succ, List.getElem_cons_zero]
        try simp only [Act.put, List.setIfInBounds_toArray, List.set_cons_zero, List.set_cons_succ]
        refine NoPanic.normal ?_
        clear z20 zf20
        have hmin : min lk1 0 = 0 := by omega
        rw [hmin]
        have hF : RowKit.Hid (PumpP I L b G w (.returned (.tuple #[.slice la n ca, .slice lb n cb])) ((w4.setCell ⟨I.s, 20, none⟩ (.int .i64 0)).drew)) := Lib.hid (by
          have a := hS4.out.acc
          have k9 : By.KF [I.s] w4 ((w4.setCell ⟨I.s, 20, none⟩ (.int .i64 0)).drew) := ((By.KF.refl _ _).set (.inl (by simp)) _).drew
          refine ⟨out, G1, { noG I G1 with link := 0 }, la, lb, ca, cb, vs, by rw [hG0.out]; exact hA.out.r, .inr ⟨by rw [hlk1.out]; exact hlink, hok.out, rfl⟩, by rw [hn.out], ⟨tb4, ct4, pos1, kd4, ?_⟩, ?_, ?_⟩
          · exact ((hS4.out.store (G' := { noG I G1 with link := 0 }) (o := 20) (v := .int .i64 0) (by omega) (shC_setLink I (noG I G1) 0) rfl rfl rfl rfl hS4.out.tk (by show (-1500 : Int) ≤ 0 ∧ (0 : Int) ≤ 1048576; omega) ⟨Nat.le_refl _, a.2.2.2⟩ a.2.1).bel (Below.refl _ _).drew).less (fun q hq => List.mem_append_right _ (List.mem_append_right _ hq))
          · exact (hO4.out.kf k9 (fun q hq => by simp at hq; omega)).mono (by rw [hbx.out]; omega)
          · exact hK4.out.trans (k9.sub (fun q hq => by simp at hq; exact Ids.mem_ns.2 (.inl hq))))
        clear hmin c20 f20 hx4
        go_wp2_with fail
        exact bodyPost_ret (v := .tuple #[.slice la n ca, .slice lb n cb]) (by simp [results, Try.results15, go_sem]) rfl hF.out
      | true =>
        obtain ⟨k, p, l, hSt⟩ := pk_step (I := I) (G := G1) (by rw [hlk1.out]; exact hlink) hok.out
        rw [hSt.2.2.1]
        have hkN := hSt.2.2.2.1
        have hq := hSt.2.2.2.2.1
        have hfit := hSt.2.2.2.2.2
        have hpo := hS1p.out k hkN p (by rw [hq]; exact List.mem_cons_self ..)
        have hten := hS4.out.ten k hkN
        have hkNi : (k : Int) < (I.N : Int) := by omega
        have hN8 : (I.N : Int) ≤ 8 := by have := hS4.out.n1.2; omega
        obtain ⟨_, e1, _, _, _⟩ := hS4.out.c3
        have q1 := hS4.out.qr k hkN
        have hpop := hS4.out.pq k hkN
        rw [show (noG I G1).Q k = p :: l from hq] at hpop
        replace hpop := Lib.hid (pq_pop_ok hpop)
        obtain ⟨m, hm⟩ : ∃ m, RowKit.Hid (p.d.length = m) := ⟨_, Lib.hid rfl⟩
        obtain ⟨tn, htn⟩ : ∃ tn : Nat, RowKit.Hid (p.t = (tn : Int)) := ⟨p.t.toNat, Lib.hid (by have := hpo.1; omega)⟩
        have htn1 : 1 ≤ tn ∧ tn ≤ 16 := by have := hpo.1; have := htn.out; omega
        have htk : RowKit.Hid ((I.T k).toNat = tn) := Lib.hid (by have := hpo.1; have := htn.out; omega)
        obtain ⟨px, hpx⟩ : ∃ y, RowKit.Hid (p.x = y) := ⟨_, Lib.hid rfl⟩
        obtain ⟨pC, hpC⟩ : ∃ y, RowKit.Hid (p.C = y) := ⟨_, Lib.hid rfl⟩
        have hm15 : (m : Int) ≤ 1492 := by have := hpo.2.2.2.1; have := hm.out; omega
        have hm15n : m ≤ 1492 := by omega
        rw [htk.out, hm.out] at hfit
        have htnI : (tn : Int) < 17 := by omega
        replace hpo := Lib.hid hpo
        replace hq := Lib.hid hq
        clear hten
        go_wp2_with fail
        refine hpop.out.mono ?_
        rintro e w5 ⟨⟨v, rfl, av, cv, rfl, hby5, hfar5⟩, hPQ5, hK5⟩
        rw [hm.out] at hby5
        rw [hm.out, htn.out, hpx.out, hpC.out]
        have hnsb : ∀ q, q ∈ I.ns → q < bx := fun q hq => by rw [← hbx.out]; exact hS.out.ns_lt q (List.mem_append_left _ hq)
        have hqns : ∀ q, q ∈ [I.qb k, I.rb k] → q ∈ I.ns := fun q hq => by simp at hq; exact Ids.mem_ns.2 (.inr (.inr (.inr ⟨k, hkN, hq⟩)))
        have hS5 := hS4.out.queue hkN (G' := { noG I G1 with Q := upQ G1.Q k l }) hK5 hPQ5 rfl (funext fun i => by unfold Sh.upn; split; rename_i e; rw [e]; rfl) rfl rfl rfl rfl rfl (fun p' hp' => hS1p.out k hkN p' (by rw [hq.out]; exact List.mem_cons_of_mem _ hp')) (by
          have a := hA.out.a.1
          have t := totQ_up (Q := G1.Q) (l := l) I.N hkN
          rw [hq.out, List.length_cons] at t
          show G1.p + 1 + totQ (upQ G1.Q k l) I.N ≤ G1.n
          omega) ⟨Nat.le_refl _, hS4.out.acc.2.2.2⟩ (hS4.out.acc.2.2.1 k hkN)
        have hx5 := hS4.out.cellK hK5 hx4 (fun z => by have := hnsb _ (hqns _ z); omega)
        have hO5 := hO4.out.kf hK5 (fun q hq => by have := hnsb _ (hqns _ hq); omega)
        have hK5' := hK4.out.trans (hK5.sub hqns)
        have hBa6 := (Below.refl w5.heap.size w5).alloc (Nat.le_refl _) (.cells #[.int .i64 px, .int .i64 (tn : Int), .int .i64 pC, .slice av m cv] 38)
        have bp6 := By.blkN_new w5 [.int .i64 px, .int .i64 (tn : Int), .int .i64 pC, .slice av m cv] 38
        have hpbx : bx < w5.heap.size := World.block_lt_of_cell? _ _ hx5
        have hlaP : ∀ q, q ∈ blkO la → q < w5.heap.size := fun q hq => hO5.s.lt hq
        have hlbP : ∀ q, q ∈ blkO lb → q < w5.heap.size := fun q hq => hO5.b.lt hq
        have hbyfar : ∀ (_ : 0 < m) (ad : Addr), av = some ad → bx < ad.block ∧ ad.block ∉ blkO la ∧ ad.block ∉ blkO lb := fun hp ad e => by
          obtain ⟨g2, o2, e2, hg2⟩ := hfar5 (by rw [hm.out]; exact hp)
          rw [e] at e2
          cases e2
          have q4 : bx < w4.heap.size := World.block_lt_of_cell? _ _ hx4
          exact ⟨Nat.lt_of_lt_of_le q4 hg2, fun z => by have := hO4.out.s.lt z; simp only at this; omega, fun z => by have := hO4.out.b.lt z; simp only at this; omega⟩
        have hby6 := Lib.hid (hby5.bel hBa6)
        have hS6 := Lib.hid (hS5.bel hBa6)
        have hx6 := (hBa6.cell (p := ⟨bx, 0, none⟩) hpbx).trans hx5
        have hO6 := Lib.hid (hO5.bel hBa6)
        have hK6 := Lib.hid (hK5'.trans (By.KF.of hBa6))
        replace hnsb := Lib.hid hnsb
        replace hlaP := Lib.hid hlaP
        replace hlbP := Lib.hid hlbP
        clear hS5 hx5 hO5 hK5' hBa6 hK5 hPQ5 hby5 hfar5 hpop e1 q1 hx4 hqns hS4 hO4 hK4
        go_upto_region 11 with fail
        generalize (w5.alloc (.cells #[.int .i64 px, .int .i64 (tn : Int), .int .i64 pC, .slice av m cv] 38)) = U6 at bp6 hby6 hS6 hx6 hO6 hK6 ⊢
        obtain ⟨pb, hpb⟩ : ∃ q, w5.heap.size = q := ⟨_, rfl⟩
        rw [hpb] at bp6 hpbx hlaP hlbP ⊢
        clear hpb
        have b0 := bp6.c 0 _ rfl
        have b1 := bp6.c 1 _ rfl
        have b2' := bp6.c 2 _ rfl
        have b3 := bp6.c 3 _ rfl
        have hsz := Lib.hid (psize_c U6 px tn pC av m cv (by omega))
        replace bp6 := Lib.hid bp6
        have hx6h := Lib.hid hx6
        clear hx6
        go_wp2_with fail
        refine hsz.out.mono ?_
        rintro e w7 ⟨rfl, hb7⟩
        have bp7 := Lib.hid (bp6.out.bel hb7)
        have hby7 := Lib.hid (hby6.out.bel hb7)
        have hS7 := Lib.hid (hS6.out.bel hb7)
        have hO7 := Lib.hid (hO6.out.bel hb7)
        have hK7 := Lib.hid (hK6.out.trans (By.KF.of hb7))
        have hx7 := (hb7.cell (p := ⟨bx, 0, none⟩) (World.block_lt_of_cell? _ _ hx6h.out)).trans hx6h.out
        clear hb7 hsz bp6 hby6 hS6 hO6 hK6 hx6h b0 b1 b2' b3
        have b1 := bp7.out.c 1 _ rfl
        have k0 := hS7.out.b.c (3 + tn) _ (shC_tok I _ tn (by omega))
        have fk := hS7.out.b.f (3 + tn)
        have htkb := hS7.out.tk tn (by omega)
        rw [show ({ noG I G1 with Q := upQ G1.Q k l } : Gs).tok tn = G1.tok tn from rfl] at k0 htkb
        obtain ⟨tk, htk'⟩ : ∃ y, RowKit.Hid (G1.tok tn = y) := ⟨_, Lib.hid rfl⟩
        rw [htk'.out] at k0 htkb hfit
        obtain ⟨htk0, htk1⟩ := htkb
        have hwr2 : IntKind.i64.wrap (tk - (8 + (m : Int))) = tk - (8 + (m : Int)) := IntWalk.i64_in _ (by omega)
        go_upto_region 12 with fail
        refine wp_region_noPanic ?_
        refine Stg.wp_region_L [12] (Bs.SB w7) (by kernel_rfl) (fun _ => (Below.refl _ _).drew) (fun hHeld => ?_)
        refine Stg.wpAnyL_start (n' := 13) (l' := #[false, false, false, false, false, false, false, false, false, false, false, false, false]) (by kernel_rfl) (by kernel_rfl) ?_
        refine Stg.wpAnyL_take (i := 0) (v := ?_) [3, 4, 5, 6, 8, 9, 10, 11, 12] 0 rfl (by kernel_rfl) (by kernel_rfl) (by kernel_rfl) (by kernel_rfl) (by kernel_rfl) (fun _ _ _ h => h) (Or.inl ⟨by kernel_rfl, ?_⟩) (by assumption) ?_
        rotate_left
        · intro u hSu
          skip
          have sB := hSu rfl
          have y0 := cellB sB hx7
          have y1 := cellB sB b1
          have y2 := cellB sB k0
          try simp only [List.getElem_toArray, List.getElem_cons_succ, List.getElem_cons_zero]
          go_simp
          try with_reducible rfl
        try simp only [Act.put, List.setIfInBounds_toArray, List.set_cons_zero, List.set_cons_succ]
        refine Stg.wpAnyL_free (i := 1) (v := ?_) 0 rfl (by kernel_rfl) (by kernel_rfl) (by kernel_rfl) (by kernel_rfl) (by kernel_rfl) (fun _ _ _ h => h) (Or.inl ⟨by kernel_rfl, ?_⟩) (by assumption) ?_
        rotate_left
        · intro u _
          try simp only [List.getElem_toArray, List.getElem_cons_succ, List.getElem_cons_zero]
          go_simp
          try with_reducible rfl
        try simp only [Act.put, List.setIfInBounds_toArray, List.set_cons_zero, List.set_cons_succ]
        refine Stg.wpAnyL_take (i := 2) (v := ?_) [5, 6, 8, 11, 12] 0 rfl (by kernel_rfl) (by kernel_rfl) (by kernel_rfl) (by kernel_rfl) (by kernel_rfl) (fun _ _ _ h => h) (Or.inl ⟨by kernel_rfl, ?_⟩) (by assumption) ?_
        rotate_left
        · intro u hSu
          skip
          have sB := hSu rfl
          have y0 := cellB sB hx7
          have y1 := cellB sB b1
          have y2 := cellB sB k0
          try simp only [List.getElem_toArray, List.getElem_cons_succ, List.getElem_cons_zero]
          go_simp
          try with_reducible rfl
        try simp only [Act.put, List.setIfInBounds_toArray, List.set_cons_zero, List.set_cons_succ]
        refine Stg.wpAnyL_start (n' := 10) (l' := #[true, true, true, false, false, false, false, false, false, false, false, false, false]) (by kernel_rfl) (by kernel_rfl) ?_
        refine Stg.wpAnyL_free (i := 3) (v := ?_) 0 rfl (by kernel_rfl) (by kernel_rfl) (by kernel_rfl) (by kernel_rfl) (by kernel_rfl) (fun _ _ _ h => h) (Or.inl ⟨by kernel_rfl, ?_⟩) (by assumption) ?_
        rotate_left
        · intro u _
          try simp only [List.getElem_toArray, List.getElem_cons_succ, List.getElem_cons_zero]
          go_simp
          try with_reducible rfl
        try simp only [Act.put, List.setIfInBounds_toArray, List.set_cons_zero, List.set_cons_succ]
        refine Stg.wpAnyL_free (i := 4) (v := ?_) 0 rfl (by kernel_rfl) (by kernel_rfl) (by kernel_rfl) (by kernel_rfl) (by kernel_rfl) (fun _ _ _ h => h) (Or.inl ⟨by kernel_rfl, ?_⟩) (by assumption) ?_
        rotate_left
        · intro u _
          try simp only [List.getElem_toArray, List.getElem_cons_succ, List.getElem_cons_zero]
          go_simp
          try with_reducible rfl
        try simp only [Act.put, List.setIfInBounds_toArray, List.set_cons_zero, List.set_cons_succ]
        refine Stg.wpAnyL_free (i := 5) (v := ?_) 0 rfl (by kernel_rfl) (by kernel_rfl) (by kernel_rfl) (by kernel_rfl) (by kernel_rfl) (fun _ _ _ h => h) (Or.inl ⟨by kernel_rfl, ?_⟩) (by assumption) ?_
        rotate_left
        · intro u _
          try simp only [List.getElem_toArray, List.getElem_cons_succ, List.getElem_cons_zero]
          go_simp
          try with_reducible rfl
        try simp only [Act.put, List.setIfInBounds_toArray, List.set_cons_zero, List.set_cons_succ]
        refine Stg.wpAnyL_start (n' := 7) (l' := #[true, true, true, true, true, true, false, false, false, false, false, false, false]) (by kernel_rfl) (by kernel_rfl) ?_
        refine Stg.wpAnyL_take (i := 6) (v := ?_) [8, 11, 12] 0 rfl (by kernel_rfl) (by kernel_rfl) (by kernel_rfl) (by kernel_rfl) (by kernel_rfl) (fun _ _ _ h => h) (Or.inl ⟨by kernel_rfl, ?_⟩) (by assumption) ?_
        rotate_left
        · intro u hSu
          skip
          have sB := hSu rfl
          have y0 := cellB sB hx7
          have y1 := cellB sB b1
          have y2 := cellB sB k0
          try simp only [List.getElem_toArray, List.getElem_cons_succ, List.getElem_cons_zero]
          go_simp
          try with_reducible rfl
        try simp only [Act.put, List.setIfInBounds_toArray, List.set_cons_zero, List.set_cons_succ]
        refine Stg.wpAnyL_free (i := 7) (v := ?_) 0 rfl (by kernel_rfl) (by kernel_rfl) (by kernel_rfl) (by kernel_rfl) (by kernel_rfl) (fun _ _ _ h => h) (Or.inl ⟨by kernel_rfl, ?_⟩) (by assumption) ?_
        rotate_left
        · intro u _
          try simp only [List.getElem_toArray, List.getElem_cons_succ, List.getElem_cons_zero]
          go_simp
          try with_reducible rfl
        try simp only [Act.put, List.setIfInBounds_toArray, List.set_cons_zero, List.set_cons_succ]
        refine Stg.wpAnyL_free (i := 8) (v := ?_) 0 rfl (by kernel_rfl) (by kernel_rfl) (by kernel_rfl) (by kernel_rfl) (by kernel_rfl) (fun _ _ _ h => h) (Or.inl ⟨by kernel_rfl, ?_⟩) (by assumption) ?_
        rotate_left
        · intro u _
          try simp only [List.getElem_toArray, List.getElem_cons_succ, List.getElem_cons_zero]
          go_simp
          try with_reducible rfl
        try simp only [Act.put, List.setIfInBounds_toArray, List.set_cons_zero, List.set_cons_succ]
        refine Stg.wpAnyL_start (n' := 4) (l' := #[true, true, true, true, true, true, true, true, true, false, false, false, false]) (by kernel_rfl) (by kernel_rfl) ?_
        refine Stg.wpAnyL_free (i := 9) (v := ?_) 0 rfl (by kernel_rfl) (by kernel_rfl) (by kernel_rfl) (by kernel_rfl) (by kernel_rfl) (fun _ _ _ h => h) (Or.inl ⟨by kernel_rfl, ?_⟩) (by assumption) ?_
        rotate_left
        · intro u _
          try simp only [List.getElem_toArray, List.getElem_cons_succ, List.getElem_cons_zero]
          go_simp
          try with_reducible rfl
        try simp only [Act.put, List.setIfInBounds_toArray, List.set_cons_zero, List.set_cons_succ]
        refine Stg.wpAnyL_free (i := 10) (v := ?_) 0 rfl (by kernel_rfl) (by kernel_rfl) (by kernel_rfl) (by kernel_rfl) (by kernel_rfl) (fun _ _ _ h => h) (Or.inl ⟨by kernel_rfl, ?_⟩) (by assumption) ?_
        rotate_left
        · intro u _
          try simp only [List.getElem_toArray, List.getElem_cons_succ, List.getElem_cons_zero]
          go_simp
          try with_reducible rfl
        try simp only [Act.put, List.setIfInBounds_toArray, List.set_cons_zero, List.set_cons_succ]
        refine Stg.wpAnyL_free (i := 11) (v := ?_) 0 rfl (by kernel_rfl) (by kernel_rfl) (by kernel_rfl) (by kernel_rfl) (by kernel_rfl) (fun _ _ _ h => h) (Or.inl ⟨by kernel_rfl, ?_⟩) (by assumption) ?_
        rotate_left
        · intro u _
          try simp only [List.getElem_toArray, List.getElem_cons_succ, List.getElem_cons_zero]
          go_simp
          try with_reducible rfl
        try simp only [Act.put, List.setIfInBounds_toArray, List.set_cons_zero, List.set_cons_succ]
        refine Stg.wpAnyL_start (n' := 1) (l' := #[true, true, true, true, true, true, true, true, true, true, true, true, false]) (by kernel_rfl) (by kernel_rfl) ?_
        refine Stg.wpAnyL_one (i := 12) 1 rfl (by kernel_rfl) (by kernel_rfl) (fun K hK => ?_)
        have z20 := cellB (hHeld rfl) k0
        have zf20 := ((hHeld rfl).frozen (p := ⟨I.s, 3 + tn, none⟩) (World.block_lt_of_cell? _ _ k0)).trans fk
        try simp only [List.getElem_toArray, List.getElem_cons_succ, List.getElem_cons_zero]
        go_simp
        refine hK.out _ _ ?_ (fun hHeld1 => ?_)
        · exact fun h => absurd h (by decide)
        clear hK K
        try simp only [Act.put, List.setIfInBounds_toArray, List.set_cons_zero, List.set_cons_succ]
        refine Stg.wpAnyL_done (by kernel_rfl) ?_ _
        try simp only [List.getElem_toArray, List.getElem_cons_succ, List.getElem_cons_zero]
        try simp only [Act.put, List.setIfInBounds_toArray, List.set_cons_zero, List.set_cons_succ]
        refine NoPanic.normal ?_
        clear z20 zf20
        try rw [hwr2]
        clear hwr2 hHeld
        have k8 : By.KF [I.s] w7 ((w7.setCell ⟨I.s, 3 + tn, none⟩ (.int .i64 (tk - (8 + (m : Int))))).drew) := ((By.KF.refl _ _).set (.inl (by simp)) _).drew
        have ns8 : ∀ q, q ∈ [I.s] → q ∈ I.ns := fun q hq => by simp at hq; exact Ids.mem_ns.2 (.inl hq)
        obtain ⟨GC, hGC⟩ : ∃ y : Gs, RowKit.Hid (({ noG I G1 with Q := upQ G1.Q k l, tok := Sh.up G1.tok tn (tk - (8 + (m : Int))) } : Gs) = y) := ⟨_, Lib.hid rfl⟩
        have hS8 := (hS7.out.store (G' := { noG I G1 with Q := upQ G1.Q k l, tok := Sh.up G1.tok tn (tk - (8 + (m : Int))) }) (o := 3 + tn) (v := .int .i64 (tk - (8 + (m : Int)))) (by omega) (shC_setTok I _ tn (by omega) _) rfl rfl rfl rfl (fun i hi => by
          simp only [Sh.up]
          split
          · omega
          · exact hS7.out.tk i hi) hS7.out.lk ⟨Nat.le_refl _, hS7.out.acc.2.2.2⟩ hS7.out.acc.2.1).bel (Below.refl _ _).drew
        rw [hGC.out] at hS8
        have hlkC : RowKit.Hid (GC.link = lk1) := Lib.hid (by rw [← hGC.out]; exact hlk1.out)
        have bp8 := Lib.hid (k8.blk bp7.out (by simp; omega))
        have hby8 := Lib.hid (k8.byt hby7.out (fun hp ad e z => by
          have q := hS7.out.b.l
          simp at z
          have hb2 := hbyfar hp ad e
          omega))
        have hO8 := Lib.hid (hO7.out.kf k8 (fun q hq => by simp at hq; omega))
        have hK8 := Lib.hid (hK7.out.trans (k8.sub ns8))
        have hx8 := Lib.hid (hS7.out.cellK k8 hx7 (by simp; omega))
        clear hS7 bp7 hby7 hO7 hK7 hx7 b1 k0 fk k8
        generalize ((w7.setCell ⟨I.s, 3 + tn, none⟩ (.int .i64 (tk - (8 + (m : Int))))).drew) = U8 at hS8 bp8 hby8 hO8 hK8 hx8 ⊢
        have c20 := hS8.c3.2.2.2.1
        rw [hlkC.out] at c20
        have f20 := hS8.b.f 20
        have hlkb := hS8.lk
        rw [hlkC.out] at hlkb
        have eb := hx8.out
        replace hS8 := Lib.hid hS8
        have z5 : lk1 - (8 + (m : Int)) ≤ 9223372036854775807 := by omega
        have z6 : -9223372036854775808 ≤ lk1 - (8 + (m : Int)) := by omega
        go_upto_region 14 with fail
        clear eb c20 f20 z5 z6
        have k9 : By.KF [I.s] U8 (U8.setCell ⟨I.s, 20, none⟩ (.int .i64 (lk1 - (8 + (m : Int))))) := (By.KF.refl _ _).set (.inl (by simp)) _
        have hpopE : RowKit.Hid (({ GC with link := lk1 - (8 + (m : Int)) } : Gs) = popG I G1 k p l) := Lib.hid (by
          rw [← hGC.out]
          unfold popG
          rw [htk.out, hm.out, htk'.out, hlk1.out])
        have hS9 := hS8.out.store (G' := { GC with link := lk1 - (8 + (m : Int)) }) (o := 20) (v := .int .i64 (lk1 - (8 + (m : Int)))) (by omega) (shC_setLink I _ _) rfl rfl rfl rfl hS8.out.tk (by show -1500 ≤ lk1 - (8 + (m : Int)) ∧ lk1 - (8 + (m : Int)) ≤ 1048576; omega) ⟨Nat.le_refl _, hS8.out.acc.2.2.2⟩ hS8.out.acc.2.1
        rw [hpopE.out] at hS9
        have bp9 := Lib.hid (k9.blk bp8.out (by simp; omega))
        have hby9 := Lib.hid (k9.byt hby8.out (fun hp ad e z => by
          simp at z
          have hb2 := hbyfar hp ad e
          omega))
        have hO9 := Lib.hid (hO8.out.kf k9 (fun q hq => by simp at hq; omega))
        have hK9 := Lib.hid (hK8.out.trans (k9.sub ns8))
        have hx9 := Lib.hid (hS8.out.cellK k9 hx8.out (by simp; omega))
        replace hS9 := Lib.hid hS9
        clear hS8 bp8 hby8 hO8 hK8 hx8 k9
        generalize (U8.setCell ⟨I.s, 20, none⟩ (.int .i64 (lk1 - (8 + (m : Int))))) = U9 at hS9 bp9 hby9 hO9 hK9 hx9 ⊢
        have b0 := bp9.out.c 0 _ rfl
        have b1 := bp9.out.c 1 _ rfl
        obtain ⟨i0, hi0, hz0, hz1, hz2⟩ := info_parts info_sentS
        obtain ⟨j0, hj0, hy0, hy1, hy2⟩ := info_parts info_bys
        have hBb := (Below.refl U9.heap.size U9).alloc (Nat.le_refl _) (.cells #[.int .i64 0, .int .i64 0, .int .i64 (tn : Int), .int .i64 (k : Nat), .int .i64 (8 + (m : Int)), .int .i64 px] 55)
        have hnb := By.blkN_new U9 [.int .i64 0, .int .i64 0, .int .i64 (tn : Int), .int .i64 (k : Nat), .int .i64 (8 + (m : Int)), .int .i64 px] 55
        have hR10 : RowG (U9.alloc (.cells #[.int .i64 0, .int .i64 0, .int .i64 (tn : Int), .int .i64 (k : Nat), .int .i64 (8 + (m : Int)), .int .i64 px] 55)) 6 la n ca (sentC out) := by have q := (hO9.out.bel hBb).s; rw [hn.out] at q; exact q
        have hnT6 : n ≤ 1000000 := by omega
        go_upto_region 15 with (at_builtin; refine wpList_app_row rfl _ _ 31 55 (by rfl) i0 _ 6 48 Try.underlying31 hi0 hz0 hz1 hz2 (by rfl) (by omega) (by omega) la n ca (sentC out) [.int .i64 0, .int .i64 0, .int .i64 (tn : Int), .int .i64 (k : Nat), .int .i64 (8 + (m : Int)), .int .i64 px] (by rfl) hR10 (by rfl) rfl (fun j u hu => hnb.c j u hu) (by simp [Value.oneCell']) hnT6 ?_; intro la' ca' w10 hR11 hKa hla')
        have hBs9 := Lib.hid hBb
        have hO9b := hO9.out.bel hBb
        have hs9b : U9.heap.size < (U9.alloc (.cells #[.int .i64 0, .int .i64 0, .int .i64 (tn : Int), .int .i64 (k : Nat), .int .i64 (8 + (m : Int)), .int .i64 px] 55)).heap.size := by simp
        have hS9b := hS9.out.bel hBb
        have bp9b := bp9.out.bel hBb
        have hby9b := hby9.out.bel hBb
        have hK9b := hK9.out.trans (By.KF.of hBb)
        have hx9b := (hBb.cell (p := ⟨bx, 0, none⟩) (World.block_lt_of_cell? _ _ hx9.out)).trans hx9.out
        clear hR10 hnb b0 b1 hBb hBs9
        generalize (U9.alloc (.cells #[.int .i64 0, .int .i64 0, .int .i64 (tn : Int), .int .i64 (k : Nat), .int .i64 (8 + (m : Int)), .int .i64 px] 55)) = V9 at hO9b hs9b hS9b bp9b hby9b hK9b hx9b hKa hla' ⊢
        obtain ⟨kd10, hS10⟩ := hS9b.grow (M := blkO la) (N := blkO la') hKa (fun q hq => List.mem_append_left _ hq) (fun q hq => by
          rcases hla' q hq with z | z
          · exact .inl (List.mem_append_left _ z)
          · exact .inr ⟨z, hR11.lt hq⟩)
        have hpbla : pb ∉ blkO la := fun z => by have := hlaP.out pb z; omega
        have hpblb : pb ∉ blkO lb := fun z => by have := hlbP.out pb z; omega
        have bp10 := hKa.blk bp9b hpbla
        have hby10 : Byt w10 av m cv p.d := hKa.byt hby9b (fun hp ad e z => (hbyfar hp ad e).2.1 z)
        have hbxla : bx ∉ blkO la := fun z => by have := hO9b.fa bx z; omega
        have hbxlb : bx ∉ blkO lb := fun z => by have := hO9b.fb bx z; omega
        have hx10 : w10.cell? ⟨bx, 0, none⟩ = some (.pointer (some ⟨I.s, 0, none⟩)) := (World.cell?_of_block (hKa.k bx (World.block_lt_of_cell? _ _ hx9b) hbxla)).trans hx9b
        have hbxV : bx + 1 ≤ V9.heap.size := World.block_lt_of_cell? _ _ hx9b
        have b0 := bp10.c 0 _ rfl
        have b1 := bp10.c 1 _ rfl
        have b2' := bp10.c 2 _ rfl
        have b3 := bp10.c 3 _ rfl
        have hbu := buildC_c p av cv w10 (by have q := hpo.out; exact ⟨rfl, q.2⟩) (by have := htn.out; omega) (by rw [hm.out]; exact hby10)
        rw [hm.out, htn.out, hpx.out, hpC.out] at hbu
        replace hbu := Lib.hid hbu
        replace hS10 := Lib.hid hS10
        replace hO9b := Lib.hid hO9b
        replace hK9b := Lib.hid hK9b
        replace hR11 := Lib.hid hR11
        replace hKa := Lib.hid hKa
        replace hla' := Lib.hid hla'
        have hx10h := Lib.hid hx10
        clear hS9b bp9b hby9b hx9b bp10 hby10 hx10 hS9 bp9 hby9 hO9 hK9 hx9
        go_wp2_with fail
        refine hbu.out.mono ?_
        rintro e w11 ⟨g2, c2, rfl, hy11, hg2, hb11⟩
        rw [hm.out] at hy11
        rw [hm.out]
        have hR12a : RowG w11 1 lb n cb vs := by
          have q := (hO9b.out.b.kf hKa.out (fun z hz y => hO9b.out.ne z y hz)).bel hb11
          rw [hn.out] at q
          exact q
        have hBb := (Below.refl w11.heap.size w11).alloc (Nat.le_refl _) (.cells #[.slice (some ⟨g2, 0, none⟩) (8 + m) c2] 34)
        have hnb := By.blkN_new w11 [.slice (some ⟨g2, 0, none⟩) (8 + m) c2] 34
        have hR12 := hR12a.bel hBb
        have hS11 := hS10.out.bel hb11
        have hS12 := Lib.hid (hS11.bel hBb)
        have hx11 := (hb11.cell (p := ⟨bx, 0, none⟩) (World.block_lt_of_cell? _ _ hx10h.out)).trans hx10h.out
        have hx12 := Lib.hid ((hBb.cell (p := ⟨bx, 0, none⟩) (World.block_lt_of_cell? _ _ hx11)).trans hx11)
        have hla0 : ∀ q, q ∈ blkO la → w.heap.size ≤ q := fun q hq => by have := hO9b.out.fa q hq; have := hbx.out; omega
        have hlb0 : ∀ q, q ∈ blkO lb → w.heap.size ≤ q := fun q hq => by have := hO9b.out.fb q hq; have := hbx.out; omega
        have hK11 := Lib.hid (((kf_far hK9b.out hKa.out hla0).trans (By.KF.of hb11)).trans (By.KF.of hBb))
        have hB11 := Lib.hid hb11
        have hBbh := Lib.hid hBb
        have hy11h := Lib.hid hy11
        replace hla0 := Lib.hid hla0
        replace hlb0 := Lib.hid hlb0
        clear hR12a hS11 hx11 hbu hb11 hy11 hBb b0 b1 b2' b3
        go_wp2_with (at_builtin; refine wpList_app_row rfl _ _ 45 34 (by rfl) j0 _ 1 24 Try.underlying45 hj0 hy0 hy1 hy2 (by rfl) (by omega) (by omega) lb n cb vs [.slice (some ⟨g2, 0, none⟩) (8 + m) c2] (by rfl) hR12 (by rfl) rfl (fun j u hu => hnb.c j u hu) (by simp [Value.oneCell']) hnT6 ?_; intro lb' cb' w12 hR13 hKb hlb'; replace hR13 := Lib.hid hR13; replace hKb := Lib.hid hKb; replace hlb' := Lib.hid hlb'; clear hR12 hnb)
        obtain ⟨kd12, hS13⟩ := hS12.out.grow (M := blkO lb) (N := blkO lb') hKb.out (fun q hq => List.mem_append_right _ (List.mem_append_right _ (List.mem_append_left _ hq))) (fun q hq => by
          rcases hlb'.out q hq with z | z
          · exact .inl (List.mem_append_right _ (List.mem_append_right _ (List.mem_append_left _ z)))
          · exact .inr ⟨z, hR13.out.lt hq⟩)
        have hS14 := hS13.less (M := blkO la' ++ (blkO lb' ++ L)) (fun q hq => by
          rcases List.mem_append.1 hq with z | z
          · exact List.mem_append_right _ (List.mem_append_left _ z)
          · rcases List.mem_append.1 z with z | z
            · exact List.mem_append_left _ z
            · exact List.mem_append_right _ (List.mem_append_right _ (List.mem_append_right _ (List.mem_append_right _ z))))
        have hO14 := OutR.push (k := k) (p := p) (g := g2) (c := c2) hO9b.out hbxV (by rw [hn.out, htn.out, hm.out, hpx.out]; exact hR11.out) hKa.out hla'.out hB11.out (by rw [hm.out]; exact hy11h.out) hg2 hBbh.out (by rw [hn.out, hm.out]; exact hR13.out) hKb.out hlb'.out
        have hx14 : w12.cell? ⟨bx, 0, none⟩ = some (.pointer (some ⟨I.s, 0, none⟩)) := (World.cell?_of_block (hKb.out.k bx (World.block_lt_of_cell? _ _ hx12.out) hbxlb)).trans hx12.out
        have hK14 := kf_far hK11.out hKb.out hlb0.out
        have htot : totQ (popG I G1 k p l).Q I.N + 1 = totQ G1.Q I.N := by
          have t := totQ_up (Q := G1.Q) (l := l) I.N hkN
          rw [hq.out, List.length_cons] at t
          show totQ (upQ G1.Q k l) I.N + 1 = _
          omega
        have hA' : RowKit.Hid (PmpA I L G0 (popG I G1 k p l) w w12 bx la' lb' ca' cb' (out ++ [(k, p)]) (vs ++ [.slice (some ⟨g2, 0, none⟩) (8 + p.d.length) c2])) := Lib.hid
          ⟨.snoc hA.out.r hSt, ⟨tb4, ct4, _, kd12, hS14⟩, hO14, hK14, hx14, ⟨by have a := hA.out.a.1; show G1.p + 1 + 1 + totQ (popG I G1 k p l).Q I.N ≤ G1.n; omega, by have a := hA.out.a.2; rw [List.length_append, List.length_singleton]; omega⟩, hA.out.bx⟩
        have hnT' : n + 1 ≤ T0 := by have a := hA.out.a.2; rw [hT0.out, hn.out] at a; omega
        clear hS13 hS14 hO14 hx14 hK14 htot
        go_roundw
        case rel => exact ⟨popG I G1 k p l, out ++ [(k, p)], la', lb', ca', cb', n + 1, _, rfl, rfl, Lib.hid (by rw [List.length_append, List.length_singleton, hn.out]), hnT', hA'⟩
        case measure => simp [lenOf]; omega
    · have c20 := e20
      have f20 := hS1.out.b.f 20
      have hmin : min lk1 0 = lk1 := by omega
      clear e2
      go_upto_region 17 with fail
      refine wp_region_noPanic ?_
      refine Stg.wp_region_L [8] (Bs.SB W) (by kernel_rfl) (fun _ => (Below.refl _ _).drew) (fun hHeld => ?_)
      refine Stg.wpAnyL_start (n' := 9) (l' := #[false, false, false, false, false, false, false, false, false]) (by kernel_rfl) (by kernel_rfl) ?_
      refine Stg.wpAnyL_take (i := 0) (v := ?_) [6, 7, 8] 0 rfl (by kernel_rfl) (by kernel_rfl) (by kernel_rfl) (by kernel_rfl) (by kernel_rfl) (fun _ _ _ h => h) (Or.inl ⟨by kernel_rfl, ?_⟩) (by assumption) ?_
      rotate_left
      · intro u hSu
        skip
        have sB := hSu rfl
        have y0 := cellB sB eb
        have y1 := cellB sB c20
        try simp only [List.getElem_toArray, List.getElem_cons_succ, List.getElem_cons_zero]
        go_simp
        try with_reducible rfl
      try simp only [Act.put, List.setIfInBounds_toArray, List.set_cons_zero, List.set_cons_succ]
      refine Stg.wpAnyL_take (i := 1) (v := ?_) [2, 3, 4, 5, 6, 7, 8] 0 rfl (by kernel_rfl) (by kernel_rfl) (by kernel_rfl) (by kernel_rfl) (by kernel_rfl) (fun _ _ _ h => h) (Or.inl ⟨by kernel_rfl, ?_⟩) (by assumption) ?_
      rotate_left
      · intro u hSu
        skip
        have sB := hSu rfl
        have y0 := cellB sB eb
        have y1 := cellB sB c20
        try simp only [List.getElem_toArray, List.getElem_cons_succ, List.getElem_cons_zero]
        go_simp
        try with_reducible rfl
      try simp only [Act.put, List.setIfInBounds_toArray, List.set_cons_zero, List.set_cons_succ]
      refine Stg.wpAnyL_free (i := 2) (v := ?_) 0 rfl (by kernel_rfl) (by kernel_rfl) (by kernel_rfl) (by kernel_rfl) (by kernel_rfl) (fun _ _ _ h => h) (Or.inl ⟨by kernel_rfl, ?_⟩) (by assumption) ?_
      rotate_left
      · intro u _
        try simp only [List.getElem_toArray, List.getElem_cons_succ, List.getElem_cons_zero]
        go_simp
        try with_reducible rfl
      try simp only [Act.put, List.setIfInBounds_toArray, List.set_cons_zero, List.set_cons_succ]
      refine Stg.wpAnyL_start (n' := 6) (l' := #[true, true, true, false, false, false, false, false, false]) (by kernel_rfl) (by kernel_rfl) ?_
      refine Stg.wpAnyL_free (i := 3) (v := ?_) 0 rfl (by kernel_rfl) (by kernel_rfl) (by kernel_rfl) (by kernel_rfl) (by kernel_rfl) (fun _ _ _ h => h) (Or.inl ⟨by kernel_rfl, ?_⟩) (by assumption) ?_
      rotate_left
      · intro u _
        try simp only [List.getElem_toArray, List.getElem_cons_succ, List.getElem_cons_zero]
        go_simp
        try with_reducible rfl
      try simp only [Act.put, List.setIfInBounds_toArray, List.set_cons_zero, List.set_cons_succ]
      refine Stg.wpAnyL_take (i := 4) (v := ?_) [5, 6, 7, 8] 0 rfl (by kernel_rfl) (by kernel_rfl) (by kernel_rfl) (by kernel_rfl) (by kernel_rfl) (fun _ _ _ h => h) (Or.inl ⟨by kernel_rfl, ?_⟩) (by assumption) ?_
      rotate_left
      · intro u hSu
        skip
        have sB := hSu rfl
        have y0 := cellB sB eb
        have y1 := cellB sB c20
        try simp only [List.getElem_toArray, List.getElem_cons_succ, List.getElem_cons_zero]
        go_simp
        try with_reducible rfl
      try simp only [Act.put, List.setIfInBounds_toArray, List.set_cons_zero, List.set_cons_succ]
      refine Stg.wpAnyL_free (i := 5) (v := ?_) 0 rfl (by kernel_rfl) (by kernel_rfl) (by kernel_rfl) (by kernel_rfl) (by kernel_rfl) (fun _ _ _ h => h) (Or.inl ⟨by kernel_rfl, ?_⟩) (by assumption) ?_
      rotate_left
      · intro u _
        try simp only [List.getElem_toArray, List.getElem_cons_succ, List.getElem_cons_zero]
        go_simp
        try with_reducible rfl
      try simp only [Act.put, List.setIfInBounds_toArray, List.set_cons_zero, List.set_cons_succ]
      refine Stg.wpAnyL_start (n' := 3) (l' := #[true, true, true, true, true, true, false, false, false]) (by kernel_rfl) (by kernel_rfl) ?_
      refine Stg.wpAnyL_free (i := 6) (v := ?_) 0 rfl (by kernel_rfl) (by kernel_rfl) (by kernel_rfl) (by kernel_rfl) (by kernel_rfl) (fun _ _ _ h => h) (Or.inl ⟨by kernel_rfl, ?_⟩) (by assumption) ?_
      rotate_left
      · intro u _
        try simp only [List.getElem_toArray, List.getElem_cons_succ, List.getElem_cons_zero]
        go_simp
        try with_reducible rfl
      try simp only [Act.put, List.setIfInBounds_toArray, List.set_cons_zero, List.set_cons_succ]
      refine Stg.wpAnyL_free (i := 7) (v := ?_) 0 rfl (by kernel_rfl) (by kernel_rfl) (by kernel_rfl) (by kernel_rfl) (by kernel_rfl) (fun _ _ _ h => h) (Or.inl ⟨by kernel_rfl, ?_⟩) (by assumption) ?_
      rotate_left
      · intro u _
        try simp only [List.getElem_toArray, List.getElem_cons_succ, List.getElem_cons_zero]
        go_simp
        try with_reducible rfl
      try simp only [Act.put, List.setIfInBounds_toArray, List.set_cons_zero, List.set_cons_succ]
      refine Stg.wpAnyL_one (i := 8) 1 rfl (by kernel_rfl) (by kernel_rfl) (fun K hK => ?_)
      have z20 := cellB (hHeld rfl) c20
      have zf20 := ((hHeld rfl).frozen (p := ⟨I.s, 20, none⟩) (World.block_lt_of_cell? _ _ c20)).trans f20
      try simp only [List.getElem_toArray, List.getElem_cons_succ, List.getElem_cons_zero]
      go_simp
      refine hK.out _ _ ?_ (fun hHeld1 => ?_)
      · exact fun h => absurd h (by decide)
      clear hK K
      try simp only [Act.put, List.setIfInBounds_toArray, List.set_cons_zero, List.set_cons_succ]
      refine Stg.wpAnyL_done (by kernel_rfl) ?_ _
      try simp only [List.getElem_toArray, List.getElem_cons_succ, List.getElem_cons_zero]
      try simp only [Act.put, List.setIfInBounds_toArray, List.set_cons_zero, List.set_cons_succ]
      refine NoPanic.normal ?_
      clear z20 zf20
      try rw [hmin]
      have hF : RowKit.Hid (PumpP I L b G w (.returned (.tuple #[.slice la n ca, .slice lb n cb])) ((W.setCell ⟨I.s, 20, none⟩ (.int .i64 lk1)).drew)) := Lib.hid (by
        have a := hS1.out.acc
        have hsx : I.s < bx := hsbx
        have k9 : By.KF [I.s] W ((W.setCell ⟨I.s, 20, none⟩ (.int .i64 lk1)).drew) := ((By.KF.refl _ _).set (.inl (by simp)) _).drew
        refine ⟨out, G1, G1, la, lb, ca, cb, vs, by rw [hG0.out]; exact hA.out.r, .inl ⟨by rw [hlk1.out]; omega, rfl⟩, by rw [hn.out], ⟨tb1, ct1, pos1, kd1, ?_⟩, ?_, ?_⟩
        · exact ((hS1.out.store (G' := G1) (o := 20) (v := .int .i64 lk1) (by omega) (by rw [shC_setLink]; exact shC_same rfl hlk1.out.symm rfl) rfl rfl rfl rfl hS1.out.tk hS1.out.lk ⟨Nat.le_refl _, a.2.2.2⟩ a.2.1).bel (Below.refl _ _).drew).less (fun q hq => List.mem_append_right _ (List.mem_append_right _ hq))
        · exact (hA.out.o.kf k9 (fun q hq => by simp at hq; omega)).mono (by rw [hbx.out]; omega)
        · exact hA.out.k.trans (k9.sub (fun q hq => by simp at hq; exact Ids.mem_ns.2 (.inl hq))))
      clear hmin c20 f20 eb e20
      go_wp2_with fail
      exact bodyPost_ret (v := .tuple #[.slice la n ca, .slice lb n cb]) (by simp [results, Try.results15, go_sem]) rfl hF.out
end Go.Proofs.Ytkefkophlhcbiaa
