/- Rows by what they say: the reference's Add. -/
import Derived.Test.YtbiodlhiilmgkaaCt12
namespace Go.Proofs.Ytbiodlhiilmgkaa
open Go.ChangeShapes Go.WideShapes Go.ChangeAt Go.RowKit
set_option linter.unusedVariables false
set_option linter.unusedSimpArgs false
open BigFrame Bs Rw Ct

namespace Ct
/-- 'append(v, x...)' onto a row of entries of the call's own. -/
theorem wpList_append_es {w : World} {ops : Array Oper} {rest : List Oper} {o : Oper} {a : Act} {Q : Exit → Act → World → Prop} (hgd : o.guard = none) (s x : Operand)
    (ho : o.op = .call { callee := .builtin .append, args := #[s, x], argTypes := #[22, 22] })
    (base : Nat) (v : Value) (n : Nat) (es1 : List Ent) (hs : a.eval s = v) (hown : w.ownsRow base 39 5 v n (rowE es1))
    (b : Option Addr) (m c : Nat) (es : List Ent) (hx : a.eval x = .slice b m c) (hes : EsAt w b m c es) (h63 : n + m ≤ 1000000) (hbase : base ≤ w.heap.size)
    (h : ∀ v' w', w'.ownsRow base 39 5 v' (n + m) (rowE (es1 ++ es)) → w.grownBy w' v.ownBlock → (v'.ownBlock = v.ownBlock ∨ v'.ownBlock = some w.heap.size) → wpList Try.prog ops Q rest (a.put o.dst v') w') : wpList Try.prog ops Q (o :: rest) a w := by
  obtain ⟨i0, hi0, hz0, hz1, hz2⟩ := info_parts info_entry
  refine wpList_append_src hgd s x 22 ho base 39 i0 _ 5 56 Try.underlying22 hi0 hz0 hz1 hz2 (by rfl) (by omega) v n (rowE es1) hs hown b m c (rowE es) hx (by rw [rowE_len, hes.len]) (fun hp => ?_) (rowE_one _) (by unfold maxLen; omega) (by omega) hbase (fun v' w' q1 q2 q3 => h v' w' (by rw [rowE_app]; exact q1) q2 q3)
  obtain ⟨g, o', ha, hg, hc⟩ := hes.cells hp
  exact ⟨_, ha, fun j u hu => by rw [Addr.add_lit]; exact hc j u hu⟩
end Ct

set_option maxRecDepth 100000 in
set_option maxHeartbeats 4000000 in
/-- **The reference's 'Add'.** -/
theorem radd_c (b t : Int) (a a2 : Option Addr) (n c m c2 : Nat) (l l2 : List En) (w : World) (h : LAt w a n c l) (h2 : LAt w a2 m c2 l2) (hw : Wfl l) (hw2 : Wfl l2) (hb : I64 b) (ht : I64 t) (hs2 : Sml l2) :
    Calls Try.prog 18 #[.agg #[.int .i64 b, .int .i64 t, .slice a n c], .slice a2 m c2] w (RowsP w (addR b t l l2)) := by
  have hB0 : Below w.heap.size w ((w.alloc (.cells #[.int .i64 b, .int .i64 t, .slice a n c] 24)).alloc (.cells #[.int .i64 0, .int .i64 0, .slice none 0 0] 24)) := ((Below.refl _ _).alloc (Nat.le_refl _) _).alloc (by simp) _
  have bx := Lib.hid ((blk_new w [.int .i64 b, .int .i64 t, .slice a n c] 24).bel ((Below.refl _ _).alloc (Nat.le_refl _) (.cells #[.int .i64 0, .int .i64 0, .slice none 0 0] 24)))
  have rs := blk_new (w.alloc (.cells #[.int .i64 b, .int .i64 t, .slice a n c] 24)) [.int .i64 0, .int .i64 0, .slice none 0 0] 24
  rw [World.size_alloc] at rs
  replace rs := Lib.hid rs
  have hck := Lib.hid (rcheck_l b t a n c l _ (h.bel hB0) hw hb ht)
  replace hB0 := Lib.hid hB0
  cases hc : chk b t l with
  | false =>
    have hm := Lib.hid (show addR b t l l2 = ⟨0, 0, [], 90⟩ by unfold addR; rw [hc]; rfl)
    rw [hc] at hck
    clear hc h h2
    go_enter Try.func18, Try.ntmps18
    go_wp2_with fail
    refine hck.out.mono ?_
    rintro e w1 ⟨rfl, hb1⟩
    have rs1 := rs.out.bel hb1
    have hB1 := bNext hB0.out hb1 (Nat.le_refl _)
    have r0 := rs1.c 0 _ rfl
    have r1 := rs1.c 1 _ rfl
    have r2 := rs1.c 2 _ rfl
    have rf := rs1.f 0
    have rf1 := rs1.f 1
    have rf2 := rs1.f 2
    have rs4 := blk_set3 rs1 (.int .i64 0) (.int .i64 0) (.slice none 0 0)
    have s0 := Lib.hid (rs4.c 0 _ rfl)
    have s1 := Lib.hid (rs4.c 1 _ rfl)
    have s2 := Lib.hid (rs4.c 2 _ rfl)
    have hB4 := Lib.hid (below_set3 hB1 (show w.heap.size ≤ w.heap.size + 1 by omega) (.int .i64 0) (.int .i64 0) (.slice none 0 0))
    clear rs1 hB1 rs4 hb1 hck bx rs hB0
    go_wp2_with fail
    refine bodyPost_ret (v := .tuple #[.agg #[.int .i64 0, .int .i64 0, .slice none 0 0], .int .i64 90]) (by simp [results, Try.results18, go_sem, s0.out, s1.out, s2.out]) rfl ?_
    rw [hm.out]
    exact ⟨_, _, _, rfl, LAt.nil _ _ _ (by omega), Far.zero _ _, hB4.out⟩
  | true =>
    have hsm := chk_sml hc
    have hm := Lib.hid (show addR b t l l2 = madeR b t (l ++ l2) by unfold addR; rw [hc]; rfl)
    obtain ⟨g1, _⟩ := chk_iff.1 hc
    have hln := h.len
    have hn5 : n ≤ 4096 := by omega
    have hm5 : m ≤ 5000 := by have := h2.len; have := hs2.1; omega
    have hmade := Lib.hid (fun u a' c' (hq : LAt u a' (n + m) c' (l ++ l2)) => rmade_c b t a' (n + m) c' (l ++ l2) u hq (hw.app hw2) hb ht (fun hh => hsm.app hs2 (by omega)))
    obtain ⟨es1, hE1, hH1⟩ := h
    obtain ⟨es2, hE2, hH2⟩ := h2
    replace hE1 := Lib.hid hE1
    replace hH1 := Lib.hid hH1
    replace hE2 := Lib.hid hE2
    replace hH2 := Lib.hid hH2
    rw [hc] at hck
    clear hc g1 hsm hln
    go_enter Try.func18, Try.ntmps18
    go_wp2_with fail
    refine hck.out.mono ?_
    rintro e w1 ⟨rfl, hb1⟩
    have bx1 := bx.out.bel hb1
    have rs1 := Lib.hid (rs.out.bel hb1)
    have hB1 := bNext hB0.out hb1 (Nat.le_refl _)
    have p0 := bx1.c 0 _ rfl
    have p1 := bx1.c 1 _ rfl
    have p2 := bx1.c 2 _ rfl
    have hsz1 := hB1.size
    replace bx1 := Lib.hid bx1
    replace hB1 := Lib.hid hB1
    clear hb1 hck bx rs hB0
    go_wp2_with (first | (at_builtin; have tok : True := trivial; refine wpList_append_es rfl (.tmp 11) (.tmp 13) rfl w1.heap.size (.slice none 0 0) 0 [] (by rfl) (World.ownsRow_nil _ _ _ _) a n c es1 (by rfl) (hE1.out.bel hB1.out) (by omega) (Nat.le_refl _) ?_; intro v2 w2 hown2 hgrow2 hat2; rw [Nat.zero_add, List.nil_append] at hown2; have hb2 : Below w1.heap.size w1 w2 := (Below.refl _ _).grown hgrow2 (Nat.le_refl _) (fun q hq => by cases hq); have hB2 := Lib.hid (bNext hB1.out hb2 (Nat.le_refl _)); have hown2' := Lib.hid hown2; have hbb2 := Lib.hid hb2; obtain ⟨a3, c3, rfl, hE3⟩ := EsAt.of_own hown2; have hE3' := Lib.hid hE3; clear hown2 hgrow2 hat2 hb2 hE3) | (at_builtin; refine wpList_append_es rfl (.tmp 15) (.tmp 16) rfl w1.heap.size (.slice a3 n c3) n es1 (by rfl) hown2'.out a2 m c2 es2 (by rfl) (hE2.out.bel hB2.out) (by omega) hbb2.out.size ?_; intro v4 w4 hown4 hgrow4 hat4; have hb4 : Below w1.heap.size w2 w4 := (Below.refl _ _).grown hgrow4 hbb2.out.size (fun q hq => (hown2'.out.lt q hq).1); obtain ⟨a5, c5, rfl, hE5⟩ := EsAt.of_own hown4; have hb14 := Lib.hid (hbb2.out.trans hb4); have hE5' := Lib.hid hE5; have bx4 := bx1.out.bel hb14.out; have q0 := bx4.c 0 _ rfl; have q1 := bx4.c 1 _ rfl; have q2 := bx4.c 2 _ rfl; clear hown4 hgrow4 hat4 hb4 hE5 bx4))
    have hB4 := Lib.hid (bNext hB1.out hb14.out (Nat.le_refl _))
    have rs4 := Lib.hid (rs1.out.bel hb14.out)
    refine (hmade.out _ _ _ ⟨_, hE5'.out, (hH1.out.bel hB4.out).app (hH2.out.bel hB4.out)⟩).mono ?_
    rintro e w6 ⟨a6, n6, c6, rfl, hL6, hF6, hb6⟩
    have rs6 := rs4.out.bel hb6
    have hB6 := bNext hB4.out hb6 (Nat.le_refl _)
    have hFF := hF6.mono (show w.heap.size + 2 ≤ w4.heap.size by have := rs4.out.l; omega)
    have r0 := rs6.c 0 _ rfl
    have r1 := rs6.c 1 _ rfl
    have r2 := rs6.c 2 _ rfl
    have rf := rs6.f 0
    have rf1 := rs6.f 1
    have rf2 := rs6.f 2
    have rs7 := blk_set3 rs6 (.int .i64 (madeR b t (l ++ l2)).b) (.int .i64 (madeR b t (l ++ l2)).t) (.slice a6 n6 c6)
    have s0 := Lib.hid (rs7.c 0 _ rfl)
    have s1 := Lib.hid (rs7.c 1 _ rfl)
    have s2 := Lib.hid (rs7.c 2 _ rfl)
    have hL7 := Lib.hid (hL6.set3 hFF (show w.heap.size + 1 < w.heap.size + 2 by omega) rs6 (.int .i64 (madeR b t (l ++ l2)).b) (.int .i64 (madeR b t (l ++ l2)).t) (.slice a6 n6 c6))
    have hB7 := Lib.hid (below_set3 hB6 (show w.heap.size ≤ w.heap.size + 1 by omega) (.int .i64 (madeR b t (l ++ l2)).b) (.int .i64 (madeR b t (l ++ l2)).t) (.slice a6 n6 c6))
    replace hFF := Lib.hid hFF
    clear rs6 hB6 rs7 hL6 hF6 hb6
    go_wp2_with fail
    refine bodyPost_ret (v := .tuple #[.agg #[.int .i64 (madeR b t (l ++ l2)).b, .int .i64 (madeR b t (l ++ l2)).t, .slice a6 n6 c6], .int .i64 (madeR b t (l ++ l2)).e]) (by simp [results, Try.results18, go_sem, s0.out, s1.out, s2.out]) rfl ?_
    rw [hm.out]
    exact ⟨_, _, _, rfl, hL7.out, hFF.out.mono (by omega), hB7.out⟩
end Go.Proofs.Ytbiodlhiilmgkaa
