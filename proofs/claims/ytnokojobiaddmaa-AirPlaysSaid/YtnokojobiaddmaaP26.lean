/- The air: All as an iterator. -/
import Derived.Test.YtnokojobiaddmaaP25
namespace Go.Proofs.Ytnokojobiaddmaa
open Go.ChangeShapes Go.WideShapes Go.ChangeAt Go.RowKit Go.Shelf
set_option linter.unusedVariables false
set_option linter.unusedSimpArgs false
open BigFrame Bs By Am Ar
attribute [local go_sem] Oper.semAt_some

namespace Ar
def msgV (x : Mg) (r : RM) : Value := .agg #[.int .i8 x.f.k, .int .i64 x.f.fr, .int .i64 x.f.to, .int .i64 x.f.te, .int .i64 x.f.ix, .int .i64 x.f.la, .int .i64 x.f.co, .bool x.f.ok, .slice r.ea r.en r.ec, .int .i64 x.f.si, .int .i64 x.f.st, .int .u8 x.f.su, .slice r.sa r.sn r.sc, .slice r.da r.dn r.dc]
/-- What All gives, in the world in which it gives it. -/
def Given (ms : List Mg) (pre : List (Nat × Value)) (y : Nat × Value) (U : World) : Prop := y.1 = pre.length ∧ ∃ x r, ms[pre.length]? = some x ∧ y.2 = .agg #[.int .i8 x.f.k, .int .i64 x.f.fr, .int .i64 x.f.to, .int .i64 x.f.te, .int .i64 x.f.ix, .int .i64 x.f.la, .int .i64 x.f.co, .bool x.f.ok, .slice r.ea r.en r.ec, .int .i64 x.f.si, .int .i64 x.f.st, .int .u8 x.f.su, .slice r.sa r.sn r.sc, .slice r.da r.dn r.dc] ∧ TM U r x
def encA (y : Nat × Value) : Array Value := #[.int .i64 (y.1 : Nat), y.2]
def KpA (n0 cb : Nat) (W U : World) : Prop := Below n0 W U ∧ U.cell? ⟨cb, 0, none⟩ = W.cell? ⟨cb, 0, none⟩
theorem KpA.t {n0 cb : Nat} {A B C : World} (h : KpA n0 cb A B) (k : KpA n0 cb B C) : KpA n0 cb A C := ⟨h.1.trans k.1, k.2.trans h.2⟩
theorem KpA.b {n0 cb n1 : Nat} (h1 : n0 ≤ n1) (h2 : cb < n1) (W : World) (l : Nat) (o o' : Obj) (hl : n1 ≤ l) (h : W.heap[l]? = some o) (_ : o.isCells = false) (_ : o.isWalk = false) : KpA n0 cb W (W.putObj l o') := by
  have q : Below n1 W (W.putObj l o') := (Below.refl n1 W).grown (grownBy_putObj' W l o') (by have := (Array.getElem?_eq_some_iff.1 h).1; omega) (fun k e => by cases e; omega)
  exact ⟨q.mono h1, q.cell (p := ⟨cb, 0, none⟩) h2⟩
theorem grown_below {W U : World} (h : Below W.heap.size W U) : W.grownBy U none := ⟨h.os, h.tape, h.output, h.size, fun k hk _ => h.block k hk⟩
theorem TML.get {w : World} {l : List RM} {ms : List Mg} (h : TML w l ms) {k : Nat} {x : Mg} (hx : ms[k]? = some x) : k < l.length ∧ TM w (l.getD k rm0) x := by
  have h2 : k < ms.length := (List.getElem?_eq_some_iff.1 hx).1
  have hk : k < l.length := by rw [h.1]; exact h2
  have q := h.at hk
  rw [show ms.getD k mg0 = x by simp [List.getD, hx]] at q
  exact ⟨hk, q⟩
end Ar

theorem aall_c (v : Option Addr) (w : World) :
    Calls Try.prog 36 #[.pointer v] w fun e w' => e = .returned (.func (.func 46) #[] #[.pointer (some ⟨w.heap.size, 0, none⟩)]) ∧ w' = w.alloc (.cells #[.pointer v] 24) := by
  go_enter Try.func36, Try.ntmps36
  go_wp2
  go_ret
  exact ⟨rfl, rfl⟩

set_option maxRecDepth 100000 in
set_option maxHeartbeats 8000000 in
theorem aall_seq (n : Nat) (hn : 1 ≤ n) {w w0 : World} {m g base : Nat} {lv : Value} {l : List RM} {bm nn : Nat} {C : Int → Int → Bool} {ms : List Mg} (h : AirAt m w g base lv l bm nn C) (ta : TML w l ms) (sm : ∀ x ∈ ms, Sm x) (hl : ms.length ≤ 1024) (hb0 : Below w.heap.size w w0) (cb : Nat) (hcb : cb < w0.heap.size) (hc : w0.cell? ⟨cb, 0, none⟩ = some (.pointer (some ⟨g, 0, none⟩))) :
    Rx.SeqX n Try.prog 46 #[.pointer (some ⟨cb, 0, none⟩)] encA (KpA w.heap.size cb) (Given ms) (fun xs => xs.length = ms.length) (fun pre => 1 ≤ pre.length ∧ pre.length ≤ ms.length) ms.length w0 := fun lo J Jx W hW hAb _ hY h0 => by
  have hc' := (hW.cell (p := ⟨cb, 0, none⟩) hcb).trans hc
  have hBW : Below w.heap.size w W := hb0.trans (hW.mono hb0.size)
  obtain ⟨len, hlen⟩ : ∃ len, RowKit.Hid (ms.length = len) := ⟨_, Lib.hid rfl⟩
  have hlm : l.length = len := by rw [ta.1, hlen.out]
  have hln := air_len (h.bel hBW)
  rw [hlm] at hln
  rw [hlen.out] at hl
  replace hln := Lib.hid hln
  have c0 := h.c0
  obtain ⟨sb, scap, hsh⟩ := own_shape h.own
  rw [hsh, hlm] at c0
  have hcl : ∀ i j, i < len → j < 14 → ∀ v, (cellsM (l.getD i rm0))[j]? = some v → ∃ q, sb = some ⟨q, 0, none⟩ ∧ w.cell? ⟨q, i * 14 + j, none⟩ = some v := fun i j hi hj v hv => by
    obtain ⟨q, cap', e, _⟩ := h.own.form (by omega)
    rw [hsh] at e
    cases e
    exact ⟨q, rfl, h.cell hsh i j (by omega) hj v hv⟩
  replace hsh := Lib.hid hsh
  replace hlm := Lib.hid hlm
  replace h := Lib.hid h
  replace ta := Lib.hid ta
  replace sm := Lib.hid sm
  replace hAb := Lib.hid hAb
  replace hY := Lib.hid hY
  replace hcl := Lib.hid hcl
  clear hc
  refine callsIn_of_wp Try.func46 rfl trivial ?_ rfl
  simp only [Try.ntmps46, List.size_toArray, List.length_cons, List.length_nil, Nat.reduceAdd, Nat.reduceSub, Array.replicate_succ, Array.replicate_zero, List.push_toArray, List.append_toArray, List.nil_append, List.cons_append]
  gi_wp2_with (refine ⟨trivial, ?_⟩; gi_at_call 12; refine (callsIn_wide.2 hln.out).mono ?_; rintro e w' ⟨rfl, rfl⟩)
  gi_loopw [3, 6] (fun _ i wr => ∃ (k : Nat) (pre : List (Nat × Value)), k ≤ len ∧ i = .int .i64 (k : Nat) ∧ pre.length = k ∧ J pre wr ∧ Below w.heap.size w wr ∧ wr.cell? ⟨cb, 0, none⟩ = some (.pointer (some ⟨g, 0, none⟩))) (fun _ i _ => len - (intOf i).toNat)
  case atStart => exact ⟨0, [], Nat.zero_le _, rfl, rfl, h0, hBW, hc'⟩
  case round =>
    obtain ⟨k, pre, hk, rfl, hpre, hJ, hB, hcx⟩ := hrel
    by_cases hlt : k < len
    · have hltz : (k : Int) < (len : Int) := by omega
      have hkz : (0 : Int) ≤ (k : Int) := by omega
      obtain ⟨x, hx⟩ : ∃ x, ms[k]? = some x := ⟨_, List.getElem?_eq_getElem (by have := hlen.out; omega)⟩
      obtain ⟨hkl, hT⟩ := ta.out.get hx
      have hm := sm.out x (List.mem_of_getElem? hx)
      generalize hr0 : l.getD k rm0 = r0 at hT
      obtain ⟨rf, ea, en, ec, sa, sn, sc, da, dn, dc⟩ := r0
      obtain rfl : rf = x.f := hT.f
      have hI := hT.is.bel hB
      have hcp := Lib.hid (fun u (hu : Below wr.heap.size wr u) => copiedM_c x ea en ec sa sn sc da dn dc u (hI.bel hu).e (hI.bel hu).s (hI.bel hu).d hm)
      obtain ⟨q, rfl, _⟩ := hcl.out k 0 hlt (by omega) (.int .i8 x.f.k) (by rw [hr0]; rfl)
      have hcl : ∀ i j, i < len → j < 14 → ∀ v, (cellsM (l.getD i rm0))[j]? = some v → w.cell? ⟨q, i * 14 + j, none⟩ = some v := fun i j hi hj v hv => by
        obtain ⟨q', e, h1⟩ := hcl.out i j hi hj v hv
        cases e
        exact h1
      have y0 := cellB hB (hcl k 0 hlt (by omega) (.int .i8 x.f.k) (by rw [hr0]; rfl))
      have y1 := cellB hB (hcl k 1 hlt (by omega) (.int .i64 x.f.fr) (by rw [hr0]; rfl))
      have y2 := cellB hB (hcl k 2 hlt (by omega) (.int .i64 x.f.to) (by rw [hr0]; rfl))
      have y3 := cellB hB (hcl k 3 hlt (by omega) (.int .i64 x.f.te) (by rw [hr0]; rfl))
      have y4 := cellB hB (hcl k 4 hlt (by omega) (.int .i64 x.f.ix) (by rw [hr0]; rfl))
      have y5 := cellB hB (hcl k 5 hlt (by omega) (.int .i64 x.f.la) (by rw [hr0]; rfl))
      have y6 := cellB hB (hcl k 6 hlt (by omega) (.int .i64 x.f.co) (by rw [hr0]; rfl))
      have y7 := cellB hB (hcl k 7 hlt (by omega) (.bool x.f.ok) (by rw [hr0]; rfl))
      have y8 := cellB hB (hcl k 8 hlt (by omega) (.slice ea en ec) (by rw [hr0]; rfl))
      have y9 := cellB hB (hcl k 9 hlt (by omega) (.int .i64 x.f.si) (by rw [hr0]; rfl))
      have y10 := cellB hB (hcl k 10 hlt (by omega) (.int .i64 x.f.st) (by rw [hr0]; rfl))
      have y11 := cellB hB (hcl k 11 hlt (by omega) (.int .u8 x.f.su) (by rw [hr0]; rfl))
      have y12 := cellB hB (hcl k 12 hlt (by omega) (.slice sa sn sc) (by rw [hr0]; rfl))
      have y13 := cellB hB (hcl k 13 hlt (by omega) (.slice da dn dc) (by rw [hr0]; rfl))
      rw [Nat.add_zero] at y0
      have c0r := cellB hB c0
      replace hx := Lib.hid hx
      replace hJ := Lib.hid hJ
      have hpx := hpre
      replace hpre := Lib.hid hpre
      clear hcl hr0 hT hI hm hkl
      gi_wp2_with fail
      refine ⟨trivial, ?_⟩
      refine (callsIn_wide.2 (hcp.out _ (Below.refl _ _))).mono ?_
      rintro e u2 ⟨r, rfl, hT2, hb2⟩
      have hB2 := hB.trans (hb2.mono hB.size)
      have hcx2 := cellB hb2 hcx
      obtain ⟨fn, tmps, assign, body, hyy, hR⟩ := hY.out pre (k, .agg #[.int .i8 x.f.k, .int .i64 x.f.fr, .int .i64 x.f.to, .int .i64 x.f.te, .int .i64 x.f.ix, .int .i64 x.f.la, .int .i64 x.f.co, .bool x.f.ok, .slice r.ea r.en r.ec, .int .i64 x.f.si, .int .i64 x.f.st, .int .u8 x.f.su, .slice r.sa r.sn r.sc, .slice r.da r.dn r.dc]) u2 (hAb.out _ _ _ none hJ.out (grown_below hb2) (fun r h => by cases h)) ⟨hpre.out.symm, x, r, by rw [hpre.out]; exact hx.out, rfl, hT2⟩ (by have := hlen.out; omega)
      clear hb2 hcp hT2 hcx hB c0r y0 y1 y2 y3 y4 y5 y6 y7 y8 y9 y10 y11 y12 y13
      simp only [encA] at hyy
      gi_wp2
      refine hR.mono ?_
      rintro e W3 (⟨rfl, hJ3, hk3⟩ | ⟨rfl, hJx3⟩)
      · have hcx3 := hk3.2.trans hcx2
        have hB3 := hB2.trans hk3.1
        gi_wp2
        go_roundw
        case rel => exact ⟨k + 1, pre ++ [_], by omega, by simp, by simp [hpre.out], hJ3, hB3, hcx3⟩
        case measure => simp [intOf]; omega
      · gi_wp2
        refine bodyPost_ret (results_none rfl _ _ _) rfl ?_
        exact ⟨⟨_, rfl⟩, .inr ⟨_, by have := hlen.out; simp [hpre.out]; omega, hJx3⟩⟩
    · obtain rfl : k = len := by omega
      gi_wp2
      go_end0
      exact ⟨⟨_, rfl⟩, .inl ⟨_, by rw [hpre, hlen.out], hJ⟩⟩
end Go.Proofs.Ytnokojobiaddmaa
