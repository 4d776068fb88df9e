/- Messages with entries and bytes: what says the same is the same (messages). -/
import Derived.Test.YtnokojobiaddmaaP5
namespace Go.Proofs.Ytnokojobiaddmaa
open Go.ChangeShapes Go.WideShapes Go.ChangeAt Go.RowKit
set_option linter.unusedVariables false
set_option linter.unusedSimpArgs false
open BigFrame Bs By Am

set_option maxRecDepth 100000 in
set_option maxHeartbeats 4000000 in
theorem sameSn_c (si st su : Int) (d : List Nat) (a a' : Option Addr) (n c n' c' : Nat) (w : World) (h : Byt w a n c d) (h' : Byt w a' n' c' d) :
    Calls Try.prog 45 #[.agg #[.int .i64 si, .int .i64 st, .int .u8 su, .slice a n c], .agg #[.int .i64 si, .int .i64 st, .int .u8 su, .slice a' n' c']] w fun e w' => e = .returned (.bool true) ∧ Below w.heap.size w w' := by
  have hB : Below w.heap.size w ((w.alloc (.cells #[.int .i64 si, .int .i64 st, .int .u8 su, .slice a n c] 32)).alloc (.cells #[.int .i64 si, .int .i64 st, .int .u8 su, .slice a' n' c'] 32)) := ((Below.refl _ _).alloc (Nat.le_refl _) _).alloc (by simp) _
  have t1 := (HT.new w #[.int .i64 si, .int .i64 st, .int .u8 su, .slice a n c] 32).bel ((Below.refl _ _).alloc (Nat.le_refl _) (.cells #[.int .i64 si, .int .i64 st, .int .u8 su, .slice a' n' c'] 32))
  have t2 : HT ((w.alloc (.cells #[.int .i64 si, .int .i64 st, .int .u8 su, .slice a n c] 32)).alloc (.cells #[.int .i64 si, .int .i64 st, .int .u8 su, .slice a' n' c'] 32)) (w.heap.size + 1) #[.int .i64 si, .int .i64 st, .int .u8 su, .slice a' n' c'] 32 := by have := HT.new (w.alloc (.cells #[.int .i64 si, .int .i64 st, .int .u8 su, .slice a n c] 32)) #[.int .i64 si, .int .i64 st, .int .u8 su, .slice a' n' c'] 32; simpa using this
  obtain ⟨S, hS⟩ := conv_ex d
  have g1 := hS _ _ _ _ (h.bel hB)
  have g2 := hS _ _ _ _ (h'.bel hB)
  clear h h' hS
  replace hB := Lib.hid hB
  replace t1 := Lib.hid t1
  replace t2 := Lib.hid t2
  replace g1 := Lib.hid g1
  replace g2 := Lib.hid g2
  go_enter Try.func45, Try.ntmps45
  go_upto_region 1 with fail
  replace hB := hB.out
  have t1 := t1.out
  have t2 := t2.out
  have g1 := g1.out
  have g2 := g2.out
  generalize ((w.alloc (.cells #[.int .i64 si, .int .i64 st, .int .u8 su, .slice a n c] 32)).alloc (.cells #[.int .i64 si, .int .i64 st, .int .u8 su, .slice a' n' c'] 32)) = W1 at hB t1 t2 g1 g2 ⊢
  have p0 := t1.c 0 _ rfl
  have p1 := t1.c 1 _ rfl
  have p2 := t1.c 2 _ rfl
  have p3 := t1.c 3 _ rfl
  have q0 := t2.c 0 _ rfl
  have q1 := t2.c 1 _ rfl
  have q2 := t2.c 2 _ rfl
  have q3 := t2.c 3 _ rfl
  have hB1 := Lib.hid hB
  clear hB t1 t2
  go_wp2_with fail
  go_ret
  exact ⟨rfl, hB1.out⟩

set_option maxRecDepth 100000 in
set_option maxHeartbeats 8000000 in
/-- **The document's Same of two that say the same.** -/
theorem sameM_c (m : Mg) (r q : RM) (w : World) (h : IsM w r m) (h' : IsM w q m) :
    Calls Try.prog 29 #[.agg #[.int .i8 m.f.k, .int .i64 m.f.fr, .int .i64 m.f.to, .int .i64 m.f.te, .int .i64 m.f.ix, .int .i64 m.f.la, .int .i64 m.f.co, .bool m.f.ok, .slice r.ea r.en r.ec, .int .i64 m.f.si, .int .i64 m.f.st, .int .u8 m.f.su, .slice r.sa r.sn r.sc, .slice r.da r.dn r.dc], .agg #[.int .i8 m.f.k, .int .i64 m.f.fr, .int .i64 m.f.to, .int .i64 m.f.te, .int .i64 m.f.ix, .int .i64 m.f.la, .int .i64 m.f.co, .bool m.f.ok, .slice q.ea q.en q.ec, .int .i64 m.f.si, .int .i64 m.f.st, .int .u8 m.f.su, .slice q.sa q.sn q.sc, .slice q.da q.dn q.dc]] w fun e w' => e = .returned (.bool true) ∧ Below w.heap.size w w' := by
  have hB : Below w.heap.size w ((w.alloc (.cells #[.int .i8 m.f.k, .int .i64 m.f.fr, .int .i64 m.f.to, .int .i64 m.f.te, .int .i64 m.f.ix, .int .i64 m.f.la, .int .i64 m.f.co, .bool m.f.ok, .slice r.ea r.en r.ec, .int .i64 m.f.si, .int .i64 m.f.st, .int .u8 m.f.su, .slice r.sa r.sn r.sc, .slice r.da r.dn r.dc] 34)).alloc (.cells #[.int .i8 m.f.k, .int .i64 m.f.fr, .int .i64 m.f.to, .int .i64 m.f.te, .int .i64 m.f.ix, .int .i64 m.f.la, .int .i64 m.f.co, .bool m.f.ok, .slice q.ea q.en q.ec, .int .i64 m.f.si, .int .i64 m.f.st, .int .u8 m.f.su, .slice q.sa q.sn q.sc, .slice q.da q.dn q.dc] 34)) := ((Below.refl _ _).alloc (Nat.le_refl _) _).alloc (by simp) _
  have t1 := (HT.new w #[.int .i8 m.f.k, .int .i64 m.f.fr, .int .i64 m.f.to, .int .i64 m.f.te, .int .i64 m.f.ix, .int .i64 m.f.la, .int .i64 m.f.co, .bool m.f.ok, .slice r.ea r.en r.ec, .int .i64 m.f.si, .int .i64 m.f.st, .int .u8 m.f.su, .slice r.sa r.sn r.sc, .slice r.da r.dn r.dc] 34).bel ((Below.refl _ _).alloc (Nat.le_refl _) (.cells #[.int .i8 m.f.k, .int .i64 m.f.fr, .int .i64 m.f.to, .int .i64 m.f.te, .int .i64 m.f.ix, .int .i64 m.f.la, .int .i64 m.f.co, .bool m.f.ok, .slice q.ea q.en q.ec, .int .i64 m.f.si, .int .i64 m.f.st, .int .u8 m.f.su, .slice q.sa q.sn q.sc, .slice q.da q.dn q.dc] 34))
  have t2 : HT ((w.alloc (.cells #[.int .i8 m.f.k, .int .i64 m.f.fr, .int .i64 m.f.to, .int .i64 m.f.te, .int .i64 m.f.ix, .int .i64 m.f.la, .int .i64 m.f.co, .bool m.f.ok, .slice r.ea r.en r.ec, .int .i64 m.f.si, .int .i64 m.f.st, .int .u8 m.f.su, .slice r.sa r.sn r.sc, .slice r.da r.dn r.dc] 34)).alloc (.cells #[.int .i8 m.f.k, .int .i64 m.f.fr, .int .i64 m.f.to, .int .i64 m.f.te, .int .i64 m.f.ix, .int .i64 m.f.la, .int .i64 m.f.co, .bool m.f.ok, .slice q.ea q.en q.ec, .int .i64 m.f.si, .int .i64 m.f.st, .int .u8 m.f.su, .slice q.sa q.sn q.sc, .slice q.da q.dn q.dc] 34)) (w.heap.size + 1) #[.int .i8 m.f.k, .int .i64 m.f.fr, .int .i64 m.f.to, .int .i64 m.f.te, .int .i64 m.f.ix, .int .i64 m.f.la, .int .i64 m.f.co, .bool m.f.ok, .slice q.ea q.en q.ec, .int .i64 m.f.si, .int .i64 m.f.st, .int .u8 m.f.su, .slice q.sa q.sn q.sc, .slice q.da q.dn q.dc] 34 := by have := HT.new (w.alloc (.cells #[.int .i8 m.f.k, .int .i64 m.f.fr, .int .i64 m.f.to, .int .i64 m.f.te, .int .i64 m.f.ix, .int .i64 m.f.la, .int .i64 m.f.co, .bool m.f.ok, .slice r.ea r.en r.ec, .int .i64 m.f.si, .int .i64 m.f.st, .int .u8 m.f.su, .slice r.sa r.sn r.sc, .slice r.da r.dn r.dc] 34)) #[.int .i8 m.f.k, .int .i64 m.f.fr, .int .i64 m.f.to, .int .i64 m.f.te, .int .i64 m.f.ix, .int .i64 m.f.la, .int .i64 m.f.co, .bool m.f.ok, .slice q.ea q.en q.ec, .int .i64 m.f.si, .int .i64 m.f.st, .int .u8 m.f.su, .slice q.sa q.sn q.sc, .slice q.da q.dn q.dc] 34; simpa using this
  obtain ⟨S, hS⟩ := conv_ex m.dd
  have h1 := h.bel hB
  have h2 := h'.bel hB
  have hes := sameEs_c _ _ _ _ _ _ _ _ h1.e h2.e
  have hcv := fun u (hu : Below (((w.alloc (.cells #[.int .i8 m.f.k, .int .i64 m.f.fr, .int .i64 m.f.to, .int .i64 m.f.te, .int .i64 m.f.ix, .int .i64 m.f.la, .int .i64 m.f.co, .bool m.f.ok, .slice r.ea r.en r.ec, .int .i64 m.f.si, .int .i64 m.f.st, .int .u8 m.f.su, .slice r.sa r.sn r.sc, .slice r.da r.dn r.dc] 34)).alloc (.cells #[.int .i8 m.f.k, .int .i64 m.f.fr, .int .i64 m.f.to, .int .i64 m.f.te, .int .i64 m.f.ix, .int .i64 m.f.la, .int .i64 m.f.co, .bool m.f.ok, .slice q.ea q.en q.ec, .int .i64 m.f.si, .int .i64 m.f.st, .int .u8 m.f.su, .slice q.sa q.sn q.sc, .slice q.da q.dn q.dc] 34))).heap.size ((w.alloc (.cells #[.int .i8 m.f.k, .int .i64 m.f.fr, .int .i64 m.f.to, .int .i64 m.f.te, .int .i64 m.f.ix, .int .i64 m.f.la, .int .i64 m.f.co, .bool m.f.ok, .slice r.ea r.en r.ec, .int .i64 m.f.si, .int .i64 m.f.st, .int .u8 m.f.su, .slice r.sa r.sn r.sc, .slice r.da r.dn r.dc] 34)).alloc (.cells #[.int .i8 m.f.k, .int .i64 m.f.fr, .int .i64 m.f.to, .int .i64 m.f.te, .int .i64 m.f.ix, .int .i64 m.f.la, .int .i64 m.f.co, .bool m.f.ok, .slice q.ea q.en q.ec, .int .i64 m.f.si, .int .i64 m.f.st, .int .u8 m.f.su, .slice q.sa q.sn q.sc, .slice q.da q.dn q.dc] 34)) u) => hS _ _ _ _ (h1.d.bel hu)
  have hcw := fun u (hu : Below (((w.alloc (.cells #[.int .i8 m.f.k, .int .i64 m.f.fr, .int .i64 m.f.to, .int .i64 m.f.te, .int .i64 m.f.ix, .int .i64 m.f.la, .int .i64 m.f.co, .bool m.f.ok, .slice r.ea r.en r.ec, .int .i64 m.f.si, .int .i64 m.f.st, .int .u8 m.f.su, .slice r.sa r.sn r.sc, .slice r.da r.dn r.dc] 34)).alloc (.cells #[.int .i8 m.f.k, .int .i64 m.f.fr, .int .i64 m.f.to, .int .i64 m.f.te, .int .i64 m.f.ix, .int .i64 m.f.la, .int .i64 m.f.co, .bool m.f.ok, .slice q.ea q.en q.ec, .int .i64 m.f.si, .int .i64 m.f.st, .int .u8 m.f.su, .slice q.sa q.sn q.sc, .slice q.da q.dn q.dc] 34))).heap.size ((w.alloc (.cells #[.int .i8 m.f.k, .int .i64 m.f.fr, .int .i64 m.f.to, .int .i64 m.f.te, .int .i64 m.f.ix, .int .i64 m.f.la, .int .i64 m.f.co, .bool m.f.ok, .slice r.ea r.en r.ec, .int .i64 m.f.si, .int .i64 m.f.st, .int .u8 m.f.su, .slice r.sa r.sn r.sc, .slice r.da r.dn r.dc] 34)).alloc (.cells #[.int .i8 m.f.k, .int .i64 m.f.fr, .int .i64 m.f.to, .int .i64 m.f.te, .int .i64 m.f.ix, .int .i64 m.f.la, .int .i64 m.f.co, .bool m.f.ok, .slice q.ea q.en q.ec, .int .i64 m.f.si, .int .i64 m.f.st, .int .u8 m.f.su, .slice q.sa q.sn q.sc, .slice q.da q.dn q.dc] 34)) u) => hS _ _ _ _ (h2.d.bel hu)
  have hsn := fun u (hu : Below (((w.alloc (.cells #[.int .i8 m.f.k, .int .i64 m.f.fr, .int .i64 m.f.to, .int .i64 m.f.te, .int .i64 m.f.ix, .int .i64 m.f.la, .int .i64 m.f.co, .bool m.f.ok, .slice r.ea r.en r.ec, .int .i64 m.f.si, .int .i64 m.f.st, .int .u8 m.f.su, .slice r.sa r.sn r.sc, .slice r.da r.dn r.dc] 34)).alloc (.cells #[.int .i8 m.f.k, .int .i64 m.f.fr, .int .i64 m.f.to, .int .i64 m.f.te, .int .i64 m.f.ix, .int .i64 m.f.la, .int .i64 m.f.co, .bool m.f.ok, .slice q.ea q.en q.ec, .int .i64 m.f.si, .int .i64 m.f.st, .int .u8 m.f.su, .slice q.sa q.sn q.sc, .slice q.da q.dn q.dc] 34))).heap.size ((w.alloc (.cells #[.int .i8 m.f.k, .int .i64 m.f.fr, .int .i64 m.f.to, .int .i64 m.f.te, .int .i64 m.f.ix, .int .i64 m.f.la, .int .i64 m.f.co, .bool m.f.ok, .slice r.ea r.en r.ec, .int .i64 m.f.si, .int .i64 m.f.st, .int .u8 m.f.su, .slice r.sa r.sn r.sc, .slice r.da r.dn r.dc] 34)).alloc (.cells #[.int .i8 m.f.k, .int .i64 m.f.fr, .int .i64 m.f.to, .int .i64 m.f.te, .int .i64 m.f.ix, .int .i64 m.f.la, .int .i64 m.f.co, .bool m.f.ok, .slice q.ea q.en q.ec, .int .i64 m.f.si, .int .i64 m.f.st, .int .u8 m.f.su, .slice q.sa q.sn q.sc, .slice q.da q.dn q.dc] 34)) u) => sameSn_c m.f.si m.f.st m.f.su m.sd _ _ _ _ _ _ u (h1.s.bel hu) (h2.s.bel hu)
  clear h h' hS h1 h2
  replace hB := Lib.hid hB
  replace t1 := Lib.hid t1
  replace t2 := Lib.hid t2
  replace hes := Lib.hid hes
  replace hcv := Lib.hid hcv
  replace hcw := Lib.hid hcw
  replace hsn := Lib.hid hsn
  go_enter Try.func29, Try.ntmps29
  go_wp2_with fail
  refine hes.out.mono ?_
  rintro e w1 ⟨rfl, hb1⟩
  have t3 := t1.out.bel hb1
  have t4 := t2.out.bel hb1
  have p9 := t3.c 9 _ rfl
  have p10 := t3.c 10 _ rfl
  have p11 := t3.c 11 _ rfl
  have p12 := t3.c 12 _ rfl
  have q9 := t4.c 9 _ rfl
  have q10 := t4.c 10 _ rfl
  have q11 := t4.c 11 _ rfl
  have q12 := t4.c 12 _ rfl
  have hq := Lib.hid (hsn.out _ hb1)
  replace t3 := Lib.hid t3
  replace t4 := Lib.hid t4
  have hB1 := Lib.hid (bNext hB.out hb1 (Nat.le_refl _))
  have hb1' := Lib.hid hb1
  clear hb1 hes t1 t2
  go_wp2_with fail
  refine hq.out.mono ?_
  rintro e w2 ⟨rfl, hb2⟩
  have t5 := t3.out.bel hb2
  have t6 := t4.out.bel hb2
  have p13 := t5.c 13 _ rfl
  have q13 := t6.c 13 _ rfl
  have hb3 := bNext hb1'.out hb2 (Nat.le_refl _)
  have g1 := hcv.out _ hb3
  have g2 := hcw.out _ hb3
  have hB2 := Lib.hid (bNext hB1.out hb2 (by have := hB.out.size; omega))
  clear hb2 hb3 t5 t6 t3 t4 p9 p10 p11 p12 q9 q10 q11 q12 hq
  go_wp2_with fail
  go_ret
  exact ⟨rfl, hB2.out⟩
end Go.Proofs.Ytnokojobiaddmaa
