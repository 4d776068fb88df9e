/- Messages with entries and bytes: the document's copies. -/
import Derived.Test.YtnokojobiaddmaaP3
namespace Go.Proofs.Ytnokojobiaddmaa
open Go.ChangeShapes Go.WideShapes Go.ChangeAt Go.RowKit
set_option linter.unusedVariables false
set_option linter.unusedSimpArgs false
open BigFrame Bs By Am

set_option maxRecDepth 100000 in
set_option maxHeartbeats 2000000 in
theorem rcopyB_c (a : Option Addr) (n cap : Nat) (d : List Nat) (w : World) (h : Byt w a n cap d) (hn2 : n ≤ 1000000) :
    Calls Try.prog 48 #[.slice a n cap] w (CloT w n d) := by
  obtain ⟨i0, hi0, hz0, hz1, hz2⟩ := info_parts info_u8P
  have hlen1 : (bvals d).length = n * 1 := by rw [bvals_len, h.len]; omega
  have hcells1 : 0 < n → ∃ ad, a = some ad ∧ ∀ j u, (bvals d)[j]? = some u → w.cell? (ad.add j) = some u := fun hp => by
    obtain ⟨b', o', hh, hb', hc⟩ := h.row hp
    refine ⟨_, hh, fun j u hu => ?_⟩
    obtain ⟨z, hz, rfl⟩ := bvals_at hu
    rw [Addr.add_lit]
    exact (hc j z hz).1
  have hmx1 : 0 + n ≤ maxLen := by unfold maxLen; omega
  have hlt := Lib.hid h.lt
  have hdl := Lib.hid h.len
  clear h
  go_enter Try.func48, Try.ntmps48
  go_wp2_with (at_builtin; refine wpList_append_src rfl _ _ 30 (by rfl) w.heap.size 5 i0 _ 1 1 Try.underlying30 hi0 hz0 hz1 hz2 (by rfl) (by omega) (.slice none 0 0) 0 [] (by rfl) (World.ownsRow_nil _ _ _ _) a n cap _ (by rfl) hlen1 hcells1 (bvals_one _) hmx1 (by omega) (Nat.le_refl _) ?_; intro v1 w3 hown1 hgrow1 hat1)
  have hB3 : Below w.heap.size w w3 := (Below.refl _ _).grown hgrow1 (Nat.le_refl _) (fun q hq => by cases hq)
  go_ret
  obtain ⟨a, c, rfl, hT⟩ := TB.of_own hown1 hlt.out hdl.out (by omega)
  exact ⟨_, _, rfl, hT, hB3⟩

set_option maxRecDepth 100000 in
set_option maxHeartbeats 4000000 in
theorem rcopyE_c (a : Option Addr) (n cap : Nat) (l : List En) (w : World) (h : LA w a n cap l) (hn2 : n ≤ 20000) (hd : ∀ y ∈ l, y.d.length ≤ 20000) :
    Calls Try.prog 47 #[.slice a n cap] w (EachP w n l) := by
  have hn3 : (n : Int) ≤ 20000 := by omega
  have hlen := Lib.hid h.len
  obtain ⟨j0, hj0, hy0, hy1, hy2⟩ := info_parts info_entryP
  go_enter Try.func47, Try.ntmps47
  go_wp2_with fail
  go_loopw [3, 4] (fun v i wr => ∃ k : Nat, k ≤ n ∧ i = .int .i64 (k : Nat) ∧ Rnd w l v k wr) (fun _ i _ => n - (intOf i).toNat)
  case atStart => exact ⟨0, by omega, rfl, Rnd.start w l⟩
  case round =>
    obtain ⟨k, hk, rfl, hR⟩ := hrel
    by_cases hlt : k < n
    · have hlt' : (k : Int) < (n : Int) := by omega
      obtain ⟨es, hes, hl, hp, hB⟩ := hR
      obtain ⟨y, hy⟩ : ∃ y, l[k]? = some y := ⟨_, List.getElem?_eq_getElem (show k < l.length by have := hlen.out; omega)⟩
      obtain ⟨b, o, xa, xn, xc, rfl, hb, x0, x1, x2, x3, x4, hbyt⟩ := (h.bel hB).ent hy
      have hdl : xn ≤ 1000000 := by have := hd y (List.mem_of_getElem? hy); rw [hbyt.len]; omega
      have bx := HT.new wr #[.int .i64 y.term, .int .i8 y.kind, .int .i64 y.stamp, .int .u8 y.set, .slice xa xn xc] 69
      have hb1 : Below wr.heap.size wr (wr.alloc (.cells #[.int .i64 y.term, .int .i8 y.kind, .int .i64 y.stamp, .int .u8 y.set, .slice xa xn xc] 69)) := (Below.refl _ _).alloc (Nat.le_refl _) _
      have hcl := Lib.hid (rcopyB_c xa xn xc y.d _ (hbyt.bel hb1) hdl)
      have hmx2 : k + 1 ≤ maxLen := by unfold maxLen; omega
      have hsz := hB.size
      replace hy := Lib.hid hy
      replace hes := Lib.hid hes
      replace hp := Lib.hid hp
      replace hB := Lib.hid hB
      replace hb1 := Lib.hid hb1
      replace hl := Lib.hid hl
      replace bx := Lib.hid bx
      clear hbyt
      go_wp2_with fail
      refine hcl.out.mono ?_
      rintro e w3 ⟨a2, c2, rfl, hT, hb3⟩
      have bx3 := bx.out.bel hb3
      have z0 := bx3.c 0 _ rfl
      have z1 := bx3.c 1 _ rfl
      have z2 := bx3.c 2 _ rfl
      have z3 := bx3.c 3 _ rfl
      have z4 := bx3.c 4 _ rfl
      have zf := bx3.f 4
      have bx4 := bx3.set 4 (.slice a2 xn c2)
      have hT4 := hT.ty (bx3.ty (o := 4) u8_ne_entry (.slice a2 xn c2))
      have hB3 := (bNext hb1.out hb3 (by simp)).setCell (p := ⟨wr.heap.size, 4, none⟩) (Nat.le_refl _) (.slice a2 xn c2)
      have hb4 := hB3.alloc hB3.size (.cells #[.int .i64 y.term, .int .i8 y.kind, .int .i64 y.stamp, .int .u8 y.set, .slice a2 xn c2] 69)
      have hown4 := own_bel hes.out hb4
      have hT5 := hT4.ty (Ty.of ((Below.refl _ _).alloc (Nat.le_refl _) (.cells #[.int .i64 y.term, .int .i8 y.kind, .int .i64 y.stamp, .int .u8 y.set, .slice a2 xn c2] 69)))
      have hnew4 := World.news_of_block (heap_alloc_new (w3.setCell ⟨wr.heap.size, 4, none⟩ (.slice a2 xn c2)) (.cells #[.int .i64 y.term, .int .i8 y.kind, .int .i64 y.stamp, .int .u8 y.set, .slice a2 xn c2] 69))
      simp only [World.size_setCell] at hnew4
      have hs3 := (bNext hb1.out hb3 (by simp)).size
      replace hb4 := Lib.hid hb4
      replace hown4 := Lib.hid hown4
      replace hT5 := Lib.hid hT5
      replace hnew4 := Lib.hid hnew4
      clear hT hb3 hB3 x0 x1 x2 x3 x4 hcl hT4 bx3 bx4
      go_wp2_with (at_builtin; refine wpList_append_src rfl _ _ 29 (by rfl) w.heap.size 69 j0 _ 5 56 Try.underlying29 hj0 hy0 hy1 hy2 (by rfl) (by omega) _ k _ (by rfl) hown4.out (some ⟨w3.heap.size, 0, none⟩) 1 1 (cellsE ⟨y.term, y.kind, y.stamp, y.set, a2, xn, c2⟩) (by rfl) (by rfl) (fun _ => ⟨_, rfl, fun j u hu => hnew4.out j u (by simpa [cellsE] using hu)⟩) (cellsE_one _) hmx2 (by omega) (by simp; omega) ?_; intro v5 w5 hown5 hgrow5 hat5)
      have hR5 := Lib.hid (Rnd.next hy.out hes.out hl.out hp.out hB.out hb4.out hT5.out hown5 hgrow5)
      clear hown5 hgrow5 hat5
      go_wp2_with fail
      go_roundw
      case rel => exact ⟨k + 1, by omega, by go_num, hR5.out⟩
      case measure => simp [intOf]; omega
    · obtain rfl : k = n := by omega
      obtain ⟨⟨a', c', rfl, hT⟩, hB⟩ := hR.te hlen.out
      replace hT := Lib.hid hT
      go_wp2_with fail
      go_ret
      exact ⟨_, _, rfl, hT.out, hB⟩

set_option maxRecDepth 100000 in
set_option maxHeartbeats 4000000 in
/-- **The document's copy of a message.** -/
theorem rcopyM_c (m : Mg) (ea : Option Addr) (en ec : Nat) (sa : Option Addr) (sn sc : Nat) (da : Option Addr) (dn dc : Nat) (w : World) (he : LA w ea en ec m.es) (hs : Byt w sa sn sc m.sd) (hd : Byt w da dn dc m.dd) (hm : Sm m) :
    Calls Try.prog 42 #[.agg #[.int .i8 m.f.k, .int .i64 m.f.fr, .int .i64 m.f.to, .int .i64 m.f.te, .int .i64 m.f.ix, .int .i64 m.f.la, .int .i64 m.f.co, .bool m.f.ok, .slice ea en ec, .int .i64 m.f.si, .int .i64 m.f.st, .int .u8 m.f.su, .slice sa sn sc, .slice da dn dc]] w (CpM w m) := by
  have bx := HT.new w #[.int .i8 m.f.k, .int .i64 m.f.fr, .int .i64 m.f.to, .int .i64 m.f.te, .int .i64 m.f.ix, .int .i64 m.f.la, .int .i64 m.f.co, .bool m.f.ok, .slice ea en ec, .int .i64 m.f.si, .int .i64 m.f.st, .int .u8 m.f.su, .slice sa sn sc, .slice da dn dc] 34
  have hb0 : Below w.heap.size w (w.alloc (.cells #[.int .i8 m.f.k, .int .i64 m.f.fr, .int .i64 m.f.to, .int .i64 m.f.te, .int .i64 m.f.ix, .int .i64 m.f.la, .int .i64 m.f.co, .bool m.f.ok, .slice ea en ec, .int .i64 m.f.si, .int .i64 m.f.st, .int .u8 m.f.su, .slice sa sn sc, .slice da dn dc] 34)) := (Below.refl _ _).alloc (Nat.le_refl _) _
  have b2 := HT.new (w.alloc (.cells #[.int .i8 m.f.k, .int .i64 m.f.fr, .int .i64 m.f.to, .int .i64 m.f.te, .int .i64 m.f.ix, .int .i64 m.f.la, .int .i64 m.f.co, .bool m.f.ok, .slice ea en ec, .int .i64 m.f.si, .int .i64 m.f.st, .int .u8 m.f.su, .slice sa sn sc, .slice da dn dc] 34)) #[.int .i8 0, .int .i64 0, .int .i64 0, .int .i64 0, .int .i64 0, .int .i64 0, .int .i64 0, .bool false, .slice none 0 0, .int .i64 0, .int .i64 0, .int .u8 0, .slice none 0 0, .slice none 0 0] 34
  rw [World.size_alloc] at b2
  have bx1 := bx.bel ((Below.refl _ _).alloc (Nat.le_refl _) (.cells #[.int .i8 0, .int .i64 0, .int .i64 0, .int .i64 0, .int .i64 0, .int .i64 0, .int .i64 0, .bool false, .slice none 0 0, .int .i64 0, .int .i64 0, .int .u8 0, .slice none 0 0, .slice none 0 0] 34))
  have hb1 := hb0.alloc (by simp) (.cells #[.int .i8 0, .int .i64 0, .int .i64 0, .int .i64 0, .int .i64 0, .int .i64 0, .int .i64 0, .bool false, .slice none 0 0, .int .i64 0, .int .i64 0, .int .u8 0, .slice none 0 0, .slice none 0 0] 34)
  have hen : en ≤ 20000 := by rw [he.len]; exact hm.e
  have hsn : sn ≤ 1000000 := by have := hm.s; rw [hs.len]; omega
  have hdn : dn ≤ 1000000 := by have := hm.d; rw [hd.len]; omega
  have he1 := Lib.hid (he.bel hb1)
  have hs1 := Lib.hid (hs.bel hb1)
  have hd1 := Lib.hid (hd.bel hb1)
  replace hb1 := Lib.hid hb1
  replace bx1 := Lib.hid bx1
  replace b2 := Lib.hid b2
  clear he hs hd bx hb0
  go_enter Try.func42, Try.ntmps42
  go_upto_region 1 with fail
  have hb1 := hb1.out
  have bx1 := bx1.out
  have b2 := b2.out
  have he1 := he1.out
  have hs1 := hs1.out
  have hd1 := hd1.out
  generalize hW : ((w.alloc (.cells #[.int .i8 m.f.k, .int .i64 m.f.fr, .int .i64 m.f.to, .int .i64 m.f.te, .int .i64 m.f.ix, .int .i64 m.f.la, .int .i64 m.f.co, .bool m.f.ok, .slice ea en ec, .int .i64 m.f.si, .int .i64 m.f.st, .int .u8 m.f.su, .slice sa sn sc, .slice da dn dc] 34)).alloc (.cells #[.int .i8 0, .int .i64 0, .int .i64 0, .int .i64 0, .int .i64 0, .int .i64 0, .int .i64 0, .bool false, .slice none 0 0, .int .i64 0, .int .i64 0, .int .u8 0, .slice none 0 0, .slice none 0 0] 34)) = W1 at hb1 bx1 b2 he1 hs1 hd1 ⊢
  have hz1 : W1.heap.size = w.heap.size + 2 := by rw [← hW]; simp
  clear hW
  generalize hxb : w.heap.size = xb at bx1 b2 hz1 ⊢
  rw [hxb] at hb1
  have hle := hb1.size
  have bx2 := bx1.bel ((Below.refl _ _).alloc (Nat.le_refl _) (.cells #[.int .i8 m.f.k, .int .i64 m.f.fr, .int .i64 m.f.to, .int .i64 m.f.te, .int .i64 m.f.ix, .int .i64 m.f.la, .int .i64 m.f.co, .bool m.f.ok, .slice ea en ec, .int .i64 m.f.si, .int .i64 m.f.st, .int .u8 m.f.su, .slice sa sn sc, .slice da dn dc] 34))
  have d2 := b2.bel ((Below.refl _ _).alloc (Nat.le_refl _) (.cells #[.int .i8 m.f.k, .int .i64 m.f.fr, .int .i64 m.f.to, .int .i64 m.f.te, .int .i64 m.f.ix, .int .i64 m.f.la, .int .i64 m.f.co, .bool m.f.ok, .slice ea en ec, .int .i64 m.f.si, .int .i64 m.f.st, .int .u8 m.f.su, .slice sa sn sc, .slice da dn dc] 34))
  have c2 := HT.new W1 #[.int .i8 m.f.k, .int .i64 m.f.fr, .int .i64 m.f.to, .int .i64 m.f.te, .int .i64 m.f.ix, .int .i64 m.f.la, .int .i64 m.f.co, .bool m.f.ok, .slice ea en ec, .int .i64 m.f.si, .int .i64 m.f.st, .int .u8 m.f.su, .slice sa sn sc, .slice da dn dc] 34
  have hBa := (Below.refl W1.heap.size W1).alloc (Nat.le_refl _) (.cells #[.int .i8 m.f.k, .int .i64 m.f.fr, .int .i64 m.f.to, .int .i64 m.f.te, .int .i64 m.f.ix, .int .i64 m.f.la, .int .i64 m.f.co, .bool m.f.ok, .slice ea en ec, .int .i64 m.f.si, .int .i64 m.f.st, .int .u8 m.f.su, .slice sa sn sc, .slice da dn dc] 34)
  have hBx := hb1.alloc (by omega) (.cells #[.int .i8 m.f.k, .int .i64 m.f.fr, .int .i64 m.f.to, .int .i64 m.f.te, .int .i64 m.f.ix, .int .i64 m.f.la, .int .i64 m.f.co, .bool m.f.ok, .slice ea en ec, .int .i64 m.f.si, .int .i64 m.f.st, .int .u8 m.f.su, .slice sa sn sc, .slice da dn dc] 34)
  have he2 := he1.bel hBa
  have hs2 := hs1.bel hBa
  have hd2 := hd1.bel hBa

  have y0 := bx1.c 0 _ rfl
  have y1 := bx1.c 1 _ rfl
  have y2 := bx1.c 2 _ rfl
  have y3 := bx1.c 3 _ rfl
  have y4 := bx1.c 4 _ rfl
  have y5 := bx1.c 5 _ rfl
  have y6 := bx1.c 6 _ rfl
  have y7 := bx1.c 7 _ rfl
  have y8 := bx1.c 8 _ rfl
  have y9 := bx1.c 9 _ rfl
  have y10 := bx1.c 10 _ rfl
  have y11 := bx1.c 11 _ rfl
  have y12 := bx1.c 12 _ rfl
  have y13 := bx1.c 13 _ rfl
  replace hxb := Lib.hid hxb
  replace bx2 := Lib.hid bx2
  replace d2 := Lib.hid d2
  replace c2 := Lib.hid c2
  replace hBx := Lib.hid hBx
  replace he2 := Lib.hid he2
  replace hs2 := Lib.hid hs2
  replace hd2 := Lib.hid hd2
  clear bx1 b2 hb1 he1 hs1 hd1 hBa
  go_upto_region 2 with fail
  have bx2 := bx2.out
  have d2 := d2.out
  have c2 := c2.out
  have hBx := hBx.out
  have he2 := he2.out
  have hs2 := hs2.out
  have hd2 := hd2.out
  generalize hW : (W1.alloc (.cells #[.int .i8 m.f.k, .int .i64 m.f.fr, .int .i64 m.f.to, .int .i64 m.f.te, .int .i64 m.f.ix, .int .i64 m.f.la, .int .i64 m.f.co, .bool m.f.ok, .slice ea en ec, .int .i64 m.f.si, .int .i64 m.f.st, .int .u8 m.f.su, .slice sa sn sc, .slice da dn dc] 34)) = W2 at bx2 d2 c2 hBx he2 hs2 hd2 ⊢
  have hle2 : W2.heap.size = W1.heap.size + 1 := by rw [← hW]; simp
  clear hW y0 y1 y2 y3 y4 y5 y6 y7 y8 y9 y10 y11 y12 y13
  rw [hz1] at hle2
  generalize hzb : W1.heap.size = zb at c2 hz1 ⊢
  subst hz1

  have hle2 : xb + 3 ≤ W2.heap.size := by omega
  have y2 := bx2.c 8 _ rfl
  have hcl := Lib.hid (rcopyE_c ea en ec m.es _ he2 hen hm.y)
  go_wp2_with fail
  refine hcl.out.mono ?_
  rintro e u2 ⟨ea2, ec2, rfl, hN, hb2⟩
  have bx' := bx2.bel hb2
  have d' := d2.bel hb2
  have c' := c2.bel hb2
  have hB' := bNext hBx hb2 (by have := hxb.out; omega)
  have yc := c'.c 8 _ rfl
  have yf := c'.f 8
  have bx3 := bx'.other (q := xb + 2) (o := 8) (by omega) (.slice ea2 en ec2)
  have d3 := d'.other (q := xb + 2) (o := 8) (by omega) (.slice ea2 en ec2)
  have c3 := c'.set 8 (.slice ea2 en ec2)
  have tf' := (Tf.of hb2).trans (c'.tf (o := 8) msg_ne_u8 msg_ne_entry (.slice ea2 en ec2))
  have hN' := hN.tf (c'.tf (o := 8) msg_ne_u8 msg_ne_entry (.slice ea2 en ec2))
  have hBy := hB'.setCell (p := ⟨xb + 2, 8, none⟩) (by simp) (.slice ea2 en ec2)
  have hle3 : xb + 3 ≤ (u2.setCell ⟨xb + 2, 8, none⟩ (.slice ea2 en ec2)).heap.size := by have := hb2.size; simp; omega
  have hs2' := hs2.bel hb2
  have hd2' := hd2.bel hb2
  have hs2'' := hs2'.set (p := ⟨xb + 2, 8, none⟩) yc (fun _ hh => by cases hh) (.slice ea2 en ec2)
  have hd2'' := hd2'.set (p := ⟨xb + 2, 8, none⟩) yc (fun _ hh => by cases hh) (.slice ea2 en ec2)
  replace bx3 := Lib.hid bx3
  replace d3 := Lib.hid d3
  replace c3 := Lib.hid c3
  replace hBy := Lib.hid hBy
  replace hle3 := Lib.hid hle3
  replace hN' := Lib.hid hN'
  replace hs2'' := Lib.hid hs2''
  replace hd2'' := Lib.hid hd2''
  clear bx2 d2 c2 bx' d' c' hB' tf' hN hBx hcl hb2 hle2 he2
  clear hs2 hs2'
  clear hd2 hd2'
  go_upto_region 3 with fail
  replace bx3 := bx3.out
  replace d3 := d3.out
  replace c3 := c3.out
  replace hBy := hBy.out
  replace hle3 := hle3.out
  replace hN' := hN'.out
  replace hs2'' := hs2''.out
  replace hd2'' := hd2''.out
  generalize (u2.setCell ⟨xb + 2, 8, none⟩ (.slice ea2 en ec2)) = W3 at bx3 d3 c3 hBy hle3 hN' hs2'' hd2'' ⊢
  have hBx := hBy
  have kE := hN'
  clear hBy hN'
  have hs2 := hs2''
  clear hs2''
  have hd2 := hd2''
  clear hd2''
  clear y2 yc yf
  have y3 := bx3.c 12 _ rfl
  have hcl := Lib.hid (rcopyB_c sa sn sc m.sd _ hs2 hsn)
  go_wp2_with fail
  refine hcl.out.mono ?_
  rintro e u3 ⟨sa2, sc2, rfl, hN, hb3⟩
  have bx' := bx3.bel hb3
  have d' := d3.bel hb3
  have c' := c3.bel hb3
  have hB' := bNext hBx hb3 (by have := hxb.out; omega)
  have yc := c'.c 12 _ rfl
  have yf := c'.f 12
  have bx4 := bx'.other (q := xb + 2) (o := 12) (by omega) (.slice sa2 sn sc2)
  have d4 := d'.other (q := xb + 2) (o := 12) (by omega) (.slice sa2 sn sc2)
  have c4 := c'.set 12 (.slice sa2 sn sc2)
  have tf' := (Tf.of hb3).trans (c'.tf (o := 12) msg_ne_u8 msg_ne_entry (.slice sa2 sn sc2))
  have hN' := hN.ty (c'.tf (o := 12) msg_ne_u8 msg_ne_entry (.slice sa2 sn sc2)).u
  have hBy := hB'.setCell (p := ⟨xb + 2, 12, none⟩) (by simp) (.slice sa2 sn sc2)
  have hle4 : xb + 3 ≤ (u3.setCell ⟨xb + 2, 12, none⟩ (.slice sa2 sn sc2)).heap.size := by have := hb3.size; simp; omega
  have hd2' := hd2.bel hb3
  have kE' := kE.tf tf'
  have hd2'' := hd2'.set (p := ⟨xb + 2, 12, none⟩) yc (fun _ hh => by cases hh) (.slice sa2 sn sc2)
  replace bx4 := Lib.hid bx4
  replace d4 := Lib.hid d4
  replace c4 := Lib.hid c4
  replace hBy := Lib.hid hBy
  replace hle4 := Lib.hid hle4
  replace hN' := Lib.hid hN'
  replace hd2'' := Lib.hid hd2''
  replace kE' := Lib.hid kE'
  clear bx3 d3 c3 bx' d' c' hB' tf' hN hBx hcl hb3 hle3 hs2
  clear hd2 hd2'
  clear kE
  go_upto_region 4 with fail
  replace bx4 := bx4.out
  replace d4 := d4.out
  replace c4 := c4.out
  replace hBy := hBy.out
  replace hle4 := hle4.out
  replace hN' := hN'.out
  replace hd2'' := hd2''.out
  replace kE' := kE'.out
  generalize (u3.setCell ⟨xb + 2, 12, none⟩ (.slice sa2 sn sc2)) = W4 at bx4 d4 c4 hBy hle4 hN' hd2'' kE' ⊢
  have hBx := hBy
  have kS := hN'
  clear hBy hN'
  have hd2 := hd2''
  clear hd2''
  have kE := kE'
  clear kE'
  clear y3 yc yf
  have y4 := bx4.c 13 _ rfl
  have hcl := Lib.hid (rcopyB_c da dn dc m.dd _ hd2 hdn)
  go_wp2_with fail
  refine hcl.out.mono ?_
  rintro e u4 ⟨da2, dc2, rfl, hN, hb4⟩
  have bx' := bx4.bel hb4
  have d' := d4.bel hb4
  have c' := c4.bel hb4
  have hB' := bNext hBx hb4 (by have := hxb.out; omega)
  have yc := c'.c 13 _ rfl
  have yf := c'.f 13
  have bx5 := bx'.other (q := xb + 2) (o := 13) (by omega) (.slice da2 dn dc2)
  have d5 := d'.other (q := xb + 2) (o := 13) (by omega) (.slice da2 dn dc2)
  have c5 := c'.set 13 (.slice da2 dn dc2)
  have tf' := (Tf.of hb4).trans (c'.tf (o := 13) msg_ne_u8 msg_ne_entry (.slice da2 dn dc2))
  have hN' := hN.ty (c'.tf (o := 13) msg_ne_u8 msg_ne_entry (.slice da2 dn dc2)).u
  have hBy := hB'.setCell (p := ⟨xb + 2, 13, none⟩) (by simp) (.slice da2 dn dc2)
  have hle5 : xb + 3 ≤ (u4.setCell ⟨xb + 2, 13, none⟩ (.slice da2 dn dc2)).heap.size := by have := hb4.size; simp; omega
  have kE' := kE.tf tf'
  have kS' := kS.ty tf'.u
  replace bx5 := Lib.hid bx5
  replace d5 := Lib.hid d5
  replace c5 := Lib.hid c5
  replace hBy := Lib.hid hBy
  replace hle5 := Lib.hid hle5
  replace hN' := Lib.hid hN'
  replace kE' := Lib.hid kE'
  replace kS' := Lib.hid kS'
  clear bx4 d4 c4 bx' d' c' hB' tf' hN hBx hcl hb4 hle4 hd2
  clear kE
  clear kS
  go_upto_region 5 with fail
  replace bx5 := bx5.out
  replace d5 := d5.out
  replace c5 := c5.out
  replace hBy := hBy.out
  replace hle5 := hle5.out
  replace hN' := hN'.out
  replace kE' := kE'.out
  replace kS' := kS'.out
  generalize (u4.setCell ⟨xb + 2, 13, none⟩ (.slice da2 dn dc2)) = W5 at bx5 d5 c5 hBy hle5 hN' kE' kS' ⊢
  have hBx := hBy
  have kD := hN'
  clear hBy hN'
  have kE := kE'
  clear kE'
  have kS := kS'
  clear kS'
  clear y4 yc yf
  have z0 := c5.c 0 _ rfl
  have z1 := c5.c 1 _ rfl
  have z2 := c5.c 2 _ rfl
  have z3 := c5.c 3 _ rfl
  have z4 := c5.c 4 _ rfl
  have z5 := c5.c 5 _ rfl
  have z6 := c5.c 6 _ rfl
  have z7 := c5.c 7 _ rfl
  have z8 := c5.c 8 _ rfl
  have z9 := c5.c 9 _ rfl
  have z10 := c5.c 10 _ rfl
  have z11 := c5.c 11 _ rfl
  have z12 := c5.c 12 _ rfl
  have z13 := c5.c 13 _ rfl
  have q0 := d5.c 0 _ rfl
  have q1 := d5.c 1 _ rfl
  have q2 := d5.c 2 _ rfl
  have q3 := d5.c 3 _ rfl
  have q4 := d5.c 4 _ rfl
  have q5 := d5.c 5 _ rfl
  have q6 := d5.c 6 _ rfl
  have q7 := d5.c 7 _ rfl
  have q8 := d5.c 8 _ rfl
  have q9 := d5.c 9 _ rfl
  have q10 := d5.c 10 _ rfl
  have q11 := d5.c 11 _ rfl
  have q12 := d5.c 12 _ rfl
  have q13 := d5.c 13 _ rfl
  have qf := d5.f
  obtain ⟨k1, k2, k3⟩ := put14 d5 (.int .i8 m.f.k) (.int .i64 m.f.fr) (.int .i64 m.f.to) (.int .i64 m.f.te) (.int .i64 m.f.ix) (.int .i64 m.f.la) (.int .i64 m.f.co) (.bool m.f.ok) (.slice ea2 en ec2) (.int .i64 m.f.si) (.int .i64 m.f.st) (.int .u8 m.f.su) (.slice sa2 sn sc2) (.slice da2 dn dc2)

  have s0 := Lib.hid (k1.c 0 _ rfl)
  have s1 := Lib.hid (k1.c 1 _ rfl)
  have s2 := Lib.hid (k1.c 2 _ rfl)
  have s3 := Lib.hid (k1.c 3 _ rfl)
  have s4 := Lib.hid (k1.c 4 _ rfl)
  have s5 := Lib.hid (k1.c 5 _ rfl)
  have s6 := Lib.hid (k1.c 6 _ rfl)
  have s7 := Lib.hid (k1.c 7 _ rfl)
  have s8 := Lib.hid (k1.c 8 _ rfl)
  have s9 := Lib.hid (k1.c 9 _ rfl)
  have s10 := Lib.hid (k1.c 10 _ rfl)
  have s11 := Lib.hid (k1.c 11 _ rfl)
  have s12 := Lib.hid (k1.c 12 _ rfl)
  have s13 := Lib.hid (k1.c 13 _ rfl)
  have rE := Lib.hid (kE.tf k2)
  have rS := Lib.hid (kS.ty k2.u)
  have rD := Lib.hid (kD.ty k2.u)
  have rB := Lib.hid (k3 _ _ hBx (by omega))
  clear k1 k2 k3 kE kS kD hBx bx5 d5 c5
  go_wp2_with fail
  refine bodyPost_ret (v := .agg #[.int .i8 m.f.k, .int .i64 m.f.fr, .int .i64 m.f.to, .int .i64 m.f.te, .int .i64 m.f.ix, .int .i64 m.f.la, .int .i64 m.f.co, .bool m.f.ok, .slice ea2 en ec2, .int .i64 m.f.si, .int .i64 m.f.st, .int .u8 m.f.su, .slice sa2 sn sc2, .slice da2 dn dc2]) (by simp [results, Try.results42, go_sem, s0.out, s1.out, s2.out, s3.out, s4.out, s5.out, s6.out, s7.out, s8.out, s9.out, s10.out, s11.out, s12.out, s13.out]) rfl ?_
  exact ⟨⟨m.f, ea2, en, ec2, sa2, sn, sc2, da2, dn, dc2⟩, rfl, ⟨rfl, rE.out, rS.out, rD.out⟩, by rw [hxb.out]; exact rB.out⟩
end Go.Proofs.Ytnokojobiaddmaa
