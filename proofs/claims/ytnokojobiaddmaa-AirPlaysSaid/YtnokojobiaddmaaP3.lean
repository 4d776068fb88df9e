/- Messages with entries and bytes: a message stored; the program's copy of a message. -/
import Derived.Test.YtnokojobiaddmaaP2
namespace Go.Proofs.Ytnokojobiaddmaa
open Go.ChangeShapes Go.WideShapes Go.ChangeAt Go.RowKit
set_option linter.unusedVariables false
set_option linter.unusedSimpArgs false
open BigFrame Bs By Am

namespace Am
theorem put14 {u : World} {b : Nat} {a0 a1 a2 a3 a4 a5 a6 a7 a8 a9 a10 a11 a12 a13 : Value} (h : HT u b #[a0, a1, a2, a3, a4, a5, a6, a7, a8, a9, a10, a11, a12, a13] 34) (v0 v1 v2 v3 v4 v5 v6 v7 v8 v9 v10 v11 v12 v13 : Value) : HT ((((((((((((((u.setCell ⟨b, 0, none⟩ v0).setCell ⟨b, 1, none⟩ v1).setCell ⟨b, 2, none⟩ v2).setCell ⟨b, 3, none⟩ v3).setCell ⟨b, 4, none⟩ v4).setCell ⟨b, 5, none⟩ v5).setCell ⟨b, 6, none⟩ v6).setCell ⟨b, 7, none⟩ v7).setCell ⟨b, 8, none⟩ v8).setCell ⟨b, 9, none⟩ v9).setCell ⟨b, 10, none⟩ v10).setCell ⟨b, 11, none⟩ v11).setCell ⟨b, 12, none⟩ v12).setCell ⟨b, 13, none⟩ v13) b #[v0, v1, v2, v3, v4, v5, v6, v7, v8, v9, v10, v11, v12, v13] 34 ∧ Tf u ((((((((((((((u.setCell ⟨b, 0, none⟩ v0).setCell ⟨b, 1, none⟩ v1).setCell ⟨b, 2, none⟩ v2).setCell ⟨b, 3, none⟩ v3).setCell ⟨b, 4, none⟩ v4).setCell ⟨b, 5, none⟩ v5).setCell ⟨b, 6, none⟩ v6).setCell ⟨b, 7, none⟩ v7).setCell ⟨b, 8, none⟩ v8).setCell ⟨b, 9, none⟩ v9).setCell ⟨b, 10, none⟩ v10).setCell ⟨b, 11, none⟩ v11).setCell ⟨b, 12, none⟩ v12).setCell ⟨b, 13, none⟩ v13) ∧ ∀ (m : Nat) (w : World), Below m w u → m ≤ b → Below m w ((((((((((((((u.setCell ⟨b, 0, none⟩ v0).setCell ⟨b, 1, none⟩ v1).setCell ⟨b, 2, none⟩ v2).setCell ⟨b, 3, none⟩ v3).setCell ⟨b, 4, none⟩ v4).setCell ⟨b, 5, none⟩ v5).setCell ⟨b, 6, none⟩ v6).setCell ⟨b, 7, none⟩ v7).setCell ⟨b, 8, none⟩ v8).setCell ⟨b, 9, none⟩ v9).setCell ⟨b, 10, none⟩ v10).setCell ⟨b, 11, none⟩ v11).setCell ⟨b, 12, none⟩ v12).setCell ⟨b, 13, none⟩ v13) := by
  have h1 : HT (u.setCell ⟨b, 0, none⟩ v0) b #[v0, a1, a2, a3, a4, a5, a6, a7, a8, a9, a10, a11, a12, a13] 34 := h.set 0 v0
  have h2 : HT ((u.setCell ⟨b, 0, none⟩ v0).setCell ⟨b, 1, none⟩ v1) b #[v0, v1, a2, a3, a4, a5, a6, a7, a8, a9, a10, a11, a12, a13] 34 := h1.set 1 v1
  have h3 : HT (((u.setCell ⟨b, 0, none⟩ v0).setCell ⟨b, 1, none⟩ v1).setCell ⟨b, 2, none⟩ v2) b #[v0, v1, v2, a3, a4, a5, a6, a7, a8, a9, a10, a11, a12, a13] 34 := h2.set 2 v2
  have h4 : HT ((((u.setCell ⟨b, 0, none⟩ v0).setCell ⟨b, 1, none⟩ v1).setCell ⟨b, 2, none⟩ v2).setCell ⟨b, 3, none⟩ v3) b #[v0, v1, v2, v3, a4, a5, a6, a7, a8, a9, a10, a11, a12, a13] 34 := h3.set 3 v3
  have h5 : HT (((((u.setCell ⟨b, 0, none⟩ v0).setCell ⟨b, 1, none⟩ v1).setCell ⟨b, 2, none⟩ v2).setCell ⟨b, 3, none⟩ v3).setCell ⟨b, 4, none⟩ v4) b #[v0, v1, v2, v3, v4, a5, a6, a7, a8, a9, a10, a11, a12, a13] 34 := h4.set 4 v4
  have h6 : HT ((((((u.setCell ⟨b, 0, none⟩ v0).setCell ⟨b, 1, none⟩ v1).setCell ⟨b, 2, none⟩ v2).setCell ⟨b, 3, none⟩ v3).setCell ⟨b, 4, none⟩ v4).setCell ⟨b, 5, none⟩ v5) b #[v0, v1, v2, v3, v4, v5, a6, a7, a8, a9, a10, a11, a12, a13] 34 := h5.set 5 v5
  have h7 : HT (((((((u.setCell ⟨b, 0, none⟩ v0).setCell ⟨b, 1, none⟩ v1).setCell ⟨b, 2, none⟩ v2).setCell ⟨b, 3, none⟩ v3).setCell ⟨b, 4, none⟩ v4).setCell ⟨b, 5, none⟩ v5).setCell ⟨b, 6, none⟩ v6) b #[v0, v1, v2, v3, v4, v5, v6, a7, a8, a9, a10, a11, a12, a13] 34 := h6.set 6 v6
  have h8 : HT ((((((((u.setCell ⟨b, 0, none⟩ v0).setCell ⟨b, 1, none⟩ v1).setCell ⟨b, 2, none⟩ v2).setCell ⟨b, 3, none⟩ v3).setCell ⟨b, 4, none⟩ v4).setCell ⟨b, 5, none⟩ v5).setCell ⟨b, 6, none⟩ v6).setCell ⟨b, 7, none⟩ v7) b #[v0, v1, v2, v3, v4, v5, v6, v7, a8, a9, a10, a11, a12, a13] 34 := h7.set 7 v7
  have h9 : HT (((((((((u.setCell ⟨b, 0, none⟩ v0).setCell ⟨b, 1, none⟩ v1).setCell ⟨b, 2, none⟩ v2).setCell ⟨b, 3, none⟩ v3).setCell ⟨b, 4, none⟩ v4).setCell ⟨b, 5, none⟩ v5).setCell ⟨b, 6, none⟩ v6).setCell ⟨b, 7, none⟩ v7).setCell ⟨b, 8, none⟩ v8) b #[v0, v1, v2, v3, v4, v5, v6, v7, v8, a9, a10, a11, a12, a13] 34 := h8.set 8 v8
  have h10 : HT ((((((((((u.setCell ⟨b, 0, none⟩ v0).setCell ⟨b, 1, none⟩ v1).setCell ⟨b, 2, none⟩ v2).setCell ⟨b, 3, none⟩ v3).setCell ⟨b, 4, none⟩ v4).setCell ⟨b, 5, none⟩ v5).setCell ⟨b, 6, none⟩ v6).setCell ⟨b, 7, none⟩ v7).setCell ⟨b, 8, none⟩ v8).setCell ⟨b, 9, none⟩ v9) b #[v0, v1, v2, v3, v4, v5, v6, v7, v8, v9, a10, a11, a12, a13] 34 := h9.set 9 v9
  have h11 : HT (((((((((((u.setCell ⟨b, 0, none⟩ v0).setCell ⟨b, 1, none⟩ v1).setCell ⟨b, 2, none⟩ v2).setCell ⟨b, 3, none⟩ v3).setCell ⟨b, 4, none⟩ v4).setCell ⟨b, 5, none⟩ v5).setCell ⟨b, 6, none⟩ v6).setCell ⟨b, 7, none⟩ v7).setCell ⟨b, 8, none⟩ v8).setCell ⟨b, 9, none⟩ v9).setCell ⟨b, 10, none⟩ v10) b #[v0, v1, v2, v3, v4, v5, v6, v7, v8, v9, v10, a11, a12, a13] 34 := h10.set 10 v10
  have h12 : HT ((((((((((((u.setCell ⟨b, 0, none⟩ v0).setCell ⟨b, 1, none⟩ v1).setCell ⟨b, 2, none⟩ v2).setCell ⟨b, 3, none⟩ v3).setCell ⟨b, 4, none⟩ v4).setCell ⟨b, 5, none⟩ v5).setCell ⟨b, 6, none⟩ v6).setCell ⟨b, 7, none⟩ v7).setCell ⟨b, 8, none⟩ v8).setCell ⟨b, 9, none⟩ v9).setCell ⟨b, 10, none⟩ v10).setCell ⟨b, 11, none⟩ v11) b #[v0, v1, v2, v3, v4, v5, v6, v7, v8, v9, v10, v11, a12, a13] 34 := h11.set 11 v11
  have h13 : HT (((((((((((((u.setCell ⟨b, 0, none⟩ v0).setCell ⟨b, 1, none⟩ v1).setCell ⟨b, 2, none⟩ v2).setCell ⟨b, 3, none⟩ v3).setCell ⟨b, 4, none⟩ v4).setCell ⟨b, 5, none⟩ v5).setCell ⟨b, 6, none⟩ v6).setCell ⟨b, 7, none⟩ v7).setCell ⟨b, 8, none⟩ v8).setCell ⟨b, 9, none⟩ v9).setCell ⟨b, 10, none⟩ v10).setCell ⟨b, 11, none⟩ v11).setCell ⟨b, 12, none⟩ v12) b #[v0, v1, v2, v3, v4, v5, v6, v7, v8, v9, v10, v11, v12, a13] 34 := h12.set 12 v12
  have h14 : HT ((((((((((((((u.setCell ⟨b, 0, none⟩ v0).setCell ⟨b, 1, none⟩ v1).setCell ⟨b, 2, none⟩ v2).setCell ⟨b, 3, none⟩ v3).setCell ⟨b, 4, none⟩ v4).setCell ⟨b, 5, none⟩ v5).setCell ⟨b, 6, none⟩ v6).setCell ⟨b, 7, none⟩ v7).setCell ⟨b, 8, none⟩ v8).setCell ⟨b, 9, none⟩ v9).setCell ⟨b, 10, none⟩ v10).setCell ⟨b, 11, none⟩ v11).setCell ⟨b, 12, none⟩ v12).setCell ⟨b, 13, none⟩ v13) b #[v0, v1, v2, v3, v4, v5, v6, v7, v8, v9, v10, v11, v12, v13] 34 := h13.set 13 v13
  refine ⟨h14, ?_, fun m w hb hm => ?_⟩
  · exact ((((((((((((((h.tf (o := 0) msg_ne_u8 msg_ne_entry v0).trans (h1.tf (o := 1) msg_ne_u8 msg_ne_entry v1)).trans (h2.tf (o := 2) msg_ne_u8 msg_ne_entry v2)).trans (h3.tf (o := 3) msg_ne_u8 msg_ne_entry v3)).trans (h4.tf (o := 4) msg_ne_u8 msg_ne_entry v4)).trans (h5.tf (o := 5) msg_ne_u8 msg_ne_entry v5)).trans (h6.tf (o := 6) msg_ne_u8 msg_ne_entry v6)).trans (h7.tf (o := 7) msg_ne_u8 msg_ne_entry v7)).trans (h8.tf (o := 8) msg_ne_u8 msg_ne_entry v8)).trans (h9.tf (o := 9) msg_ne_u8 msg_ne_entry v9)).trans (h10.tf (o := 10) msg_ne_u8 msg_ne_entry v10)).trans (h11.tf (o := 11) msg_ne_u8 msg_ne_entry v11)).trans (h12.tf (o := 12) msg_ne_u8 msg_ne_entry v12)).trans (h13.tf (o := 13) msg_ne_u8 msg_ne_entry v13))
  · exact ((((((((((((((hb.setCell (p := ⟨b, 0, none⟩) hm v0).setCell (p := ⟨b, 1, none⟩) hm v1).setCell (p := ⟨b, 2, none⟩) hm v2).setCell (p := ⟨b, 3, none⟩) hm v3).setCell (p := ⟨b, 4, none⟩) hm v4).setCell (p := ⟨b, 5, none⟩) hm v5).setCell (p := ⟨b, 6, none⟩) hm v6).setCell (p := ⟨b, 7, none⟩) hm v7).setCell (p := ⟨b, 8, none⟩) hm v8).setCell (p := ⟨b, 9, none⟩) hm v9).setCell (p := ⟨b, 10, none⟩) hm v10).setCell (p := ⟨b, 11, none⟩) hm v11).setCell (p := ⟨b, 12, none⟩) hm v12).setCell (p := ⟨b, 13, none⟩) hm v13)
end Am

set_option maxRecDepth 100000 in
set_option maxHeartbeats 4000000 in
/-- **The program's copy of a message.** -/
theorem copiedM_c (m : Mg) (ea : Option Addr) (en ec : Nat) (sa : Option Addr) (sn sc : Nat) (da : Option Addr) (dn dc : Nat) (w : World) (he : LA w ea en ec m.es) (hs : Byt w sa sn sc m.sd) (hd : Byt w da dn dc m.dd) (hm : Sm m) :
    Calls Try.prog 22 #[.agg #[.int .i8 m.f.k, .int .i64 m.f.fr, .int .i64 m.f.to, .int .i64 m.f.te, .int .i64 m.f.ix, .int .i64 m.f.la, .int .i64 m.f.co, .bool m.f.ok, .slice ea en ec, .int .i64 m.f.si, .int .i64 m.f.st, .int .u8 m.f.su, .slice sa sn sc, .slice da dn dc]] w (CpM w m) := by
  have bx := HT.new w #[.int .i8 m.f.k, .int .i64 m.f.fr, .int .i64 m.f.to, .int .i64 m.f.te, .int .i64 m.f.ix, .int .i64 m.f.la, .int .i64 m.f.co, .bool m.f.ok, .slice ea en ec, .int .i64 m.f.si, .int .i64 m.f.st, .int .u8 m.f.su, .slice sa sn sc, .slice da dn dc] 34
  have hb0 : Below w.heap.size w (w.alloc (.cells #[.int .i8 m.f.k, .int .i64 m.f.fr, .int .i64 m.f.to, .int .i64 m.f.te, .int .i64 m.f.ix, .int .i64 m.f.la, .int .i64 m.f.co, .bool m.f.ok, .slice ea en ec, .int .i64 m.f.si, .int .i64 m.f.st, .int .u8 m.f.su, .slice sa sn sc, .slice da dn dc] 34)) := (Below.refl _ _).alloc (Nat.le_refl _) _
  have b2 := HT.new (w.alloc (.cells #[.int .i8 m.f.k, .int .i64 m.f.fr, .int .i64 m.f.to, .int .i64 m.f.te, .int .i64 m.f.ix, .int .i64 m.f.la, .int .i64 m.f.co, .bool m.f.ok, .slice ea en ec, .int .i64 m.f.si, .int .i64 m.f.st, .int .u8 m.f.su, .slice sa sn sc, .slice da dn dc] 34)) #[.int .i8 0, .int .i64 0, .int .i64 0, .int .i64 0, .int .i64 0, .int .i64 0, .int .i64 0, .bool false, .slice none 0 0, .int .i64 0, .int .i64 0, .int .u8 0, .slice none 0 0, .slice none 0 0] 34
  rw [World.size_alloc] at b2
  have bx1 := bx.bel ((Below.refl _ _).alloc (Nat.le_refl _) (.cells #[.int .i8 0, .int .i64 0, .int .i64 0, .int .i64 0, .int .i64 0, .int .i64 0, .int .i64 0, .bool false, .slice none 0 0, .int .i64 0, .int .i64 0, .int .u8 0, .slice none 0 0, .slice none 0 0] 34))
  have hb1 := hb0.alloc (by simp) (.cells #[.int .i8 0, .int .i64 0, .int .i64 0, .int .i64 0, .int .i64 0, .int .i64 0, .int .i64 0, .bool false, .slice none 0 0, .int .i64 0, .int .i64 0, .int .u8 0, .slice none 0 0, .slice none 0 0] 34)
  have hen : en ≤ 20000 := by rw [he.len]; exact hm.e
  have hsn : sn ≤ 1000000 := by have := hm.s; rw [hs.len]; omega
  have hdn : dn ≤ 1000000 := by have := hm.d; rw [hd.len]; omega
  have hcl := Lib.hid (eachE_c ea en ec m.es _ (he.bel hb1) hen hm.y)
  have hs1 := Lib.hid (hs.bel hb1)
  have hd1 := Lib.hid (hd.bel hb1)
  replace hb1 := Lib.hid hb1
  replace bx1 := Lib.hid bx1
  replace b2 := Lib.hid b2
  replace hm := Lib.hid hm
  clear he hs hd bx hb0
  go_enter Try.func22, Try.ntmps22
  go_upto_region 1 with fail
  have hb1 := hb1.out
  have bx1 := bx1.out
  have b2 := b2.out
  have hcl := hcl.out
  have hs1 := hs1.out
  have hd1 := hd1.out
  generalize hW : ((w.alloc (.cells #[.int .i8 m.f.k, .int .i64 m.f.fr, .int .i64 m.f.to, .int .i64 m.f.te, .int .i64 m.f.ix, .int .i64 m.f.la, .int .i64 m.f.co, .bool m.f.ok, .slice ea en ec, .int .i64 m.f.si, .int .i64 m.f.st, .int .u8 m.f.su, .slice sa sn sc, .slice da dn dc] 34)).alloc (.cells #[.int .i8 0, .int .i64 0, .int .i64 0, .int .i64 0, .int .i64 0, .int .i64 0, .int .i64 0, .bool false, .slice none 0 0, .int .i64 0, .int .i64 0, .int .u8 0, .slice none 0 0, .slice none 0 0] 34)) = W1 at hb1 bx1 b2 hcl hs1 hd1 ⊢
  clear hW
  generalize hxb : w.heap.size = xb at bx1 b2 hcl ⊢
  rw [hxb] at hb1
  have hle := hb1.size
  replace hxb := Lib.hid hxb
  replace hb1 := Lib.hid hb1
  replace hs1 := Lib.hid hs1
  replace hd1 := Lib.hid hd1
  have y8 := bx1.c 8 _ rfl
  go_wp2_with fail
  refine hcl.mono ?_
  rintro e w2 ⟨ea2, ec2, rfl, hE, hb2⟩
  have bx2 := bx1.bel hb2
  have d2 := b2.bel hb2
  have hB2 := bNext hb1.out hb2 (by have := hxb.out; omega)
  have y8 := bx2.c 8 _ rfl
  have yf := bx2.f 8
  have bx3 := bx2.set 8 (.slice ea2 en ec2)
  have d3 := d2.other (q := xb) (o := 8) (by omega) (.slice ea2 en ec2)
  have hE3 := hE.tf (bx2.tf (o := 8) msg_ne_u8 msg_ne_entry (.slice ea2 en ec2))
  have hB3 := hB2.setCell (p := ⟨xb, 8, none⟩) (Nat.le_refl _) (.slice ea2 en ec2)
  have hs3 := ((hs1.out.bel hb2).set (p := ⟨xb, 8, none⟩) y8 (fun _ hh => by cases hh) (.slice ea2 en ec2))
  have hd3 := ((hd1.out.bel hb2).set (p := ⟨xb, 8, none⟩) y8 (fun _ hh => by cases hh) (.slice ea2 en ec2))
  replace bx3 := Lib.hid bx3
  replace d3 := Lib.hid d3
  replace hE3 := Lib.hid hE3
  replace hB3 := Lib.hid hB3
  replace hs3 := Lib.hid hs3
  replace hd3 := Lib.hid hd3
  clear bx1 b2 hcl hE hb2 bx2 d2 hB2 hs1 hd1
  go_upto_region 2 with fail
  have bx3 := bx3.out
  have d3 := d3.out
  have hE3 := hE3.out
  have hB3 := hB3.out
  have hs3 := hs3.out
  have hd3 := hd3.out
  generalize (w2.setCell ⟨xb, 8, none⟩ (.slice ea2 en ec2)) = W3 at bx3 d3 hE3 hB3 hs3 hd3 ⊢
  clear y8 yf
  have p12 := bx3.c 12 (.slice sa sn sc) rfl
  have p13 := bx3.c 13 (.slice da dn dc) rfl
  have hcs := Lib.hid (fun u (hu : Below W3.heap.size W3 u) => cloneT_c sa sn sc m.sd u (hs3.bel hu) hsn)
  have hcd := Lib.hid (fun u (hu : Below W3.heap.size W3 u) => cloneT_c da dn dc m.dd u (hd3.bel hu) hdn)
  replace bx3 := Lib.hid bx3
  replace d3 := Lib.hid d3
  replace hE3 := Lib.hid hE3
  replace hB3 := Lib.hid hB3
  clear hs3 hd3
  refine wp_region_noPanic ?_
  refine Stg.wp_region_L [9, 11] (Bs.SB W3) (by kernel_rfl) (fun _ => (Below.refl _ _).drew) (fun hHeld => ?_)
  refine Stg.wpAnyL_start (n' := 12) (l' := #[false, false, false, false, false, false, false, false, false, false, false, false]) (by kernel_rfl) (by kernel_rfl) ?_
  refine Stg.wpAnyL_free (i := 0) (v := ?_) 0 rfl (by kernel_rfl) (by kernel_rfl) (by kernel_rfl) (by kernel_rfl) (by kernel_rfl) (fun _ _ _ h => h) (Or.inl ⟨by kernel_rfl, ?_⟩) (by assumption) ?_
  rotate_left
  · intro u _
    try simp only [List.getElem_toArray, List.getElem_cons_succ, List.getElem_cons_zero]
    go_simp
    try with_reducible rfl
  try simp only [Act.put, List.setIfInBounds_toArray, List.set_cons_zero, List.set_cons_succ]
  refine Stg.wpAnyL_free (i := 1) (v := ?_) 0 rfl (by kernel_rfl) (by kernel_rfl) (by kernel_rfl) (by kernel_rfl) (by kernel_rfl) (fun _ _ _ h => h) (Or.inl ⟨by kernel_rfl, ?_⟩) (by assumption) ?_
  rotate_left
  · intro u _
    try simp only [List.getElem_toArray, List.getElem_cons_succ, List.getElem_cons_zero]
    go_simp
    try with_reducible rfl
  try simp only [Act.put, List.setIfInBounds_toArray, List.set_cons_zero, List.set_cons_succ]
  refine Stg.wpAnyL_take (i := 2) (v := ?_) [3, 6, 7, 8, 9, 10, 11] 0 rfl (by kernel_rfl) (by kernel_rfl) (by kernel_rfl) (by kernel_rfl) (by kernel_rfl) (fun _ _ _ h => h) (Or.inl ⟨by kernel_rfl, ?_⟩) (by assumption) ?_
  rotate_left
  · intro u hSu
    skip
    have sB := hSu rfl
    have y0 := cellB sB p12
    have y1 := cellB sB p13
    try simp only [List.getElem_toArray, List.getElem_cons_succ, List.getElem_cons_zero]
    go_simp
    try with_reducible rfl
  try simp only [Act.put, List.setIfInBounds_toArray, List.set_cons_zero, List.set_cons_succ]
  refine Stg.wpAnyL_start (n' := 9) (l' := #[true, true, true, false, false, false, false, false, false, false, false, false]) (by kernel_rfl) (by kernel_rfl) ?_
  refine Stg.wpAnyL_free (i := 4) (v := ?_) 0 rfl (by kernel_rfl) (by kernel_rfl) (by kernel_rfl) (by kernel_rfl) (by kernel_rfl) (fun _ _ _ h => h) (Or.inl ⟨by kernel_rfl, ?_⟩) (by assumption) ?_
  rotate_left
  · intro u _
    try simp only [List.getElem_toArray, List.getElem_cons_succ, List.getElem_cons_zero]
    go_simp
    try with_reducible rfl
  try simp only [Act.put, List.setIfInBounds_toArray, List.set_cons_zero, List.set_cons_succ]
  refine Stg.wpAnyL_take (i := 5) (v := ?_) [6, 7, 8, 9, 10, 11] 0 rfl (by kernel_rfl) (by kernel_rfl) (by kernel_rfl) (by kernel_rfl) (by kernel_rfl) (fun _ _ _ h => h) (Or.inl ⟨by kernel_rfl, ?_⟩) (by assumption) ?_
  rotate_left
  · intro u hSu
    skip
    have sB := hSu rfl
    have y0 := cellB sB p12
    have y1 := cellB sB p13
    try simp only [List.getElem_toArray, List.getElem_cons_succ, List.getElem_cons_zero]
    go_simp
    try with_reducible rfl
  try simp only [Act.put, List.setIfInBounds_toArray, List.set_cons_zero, List.set_cons_succ]
  refine Stg.wpAnyL_one (i := 3) 0 rfl (by kernel_rfl) (by kernel_rfl) (fun K hK => ?_)
  try simp only [List.getElem_toArray, List.getElem_cons_succ, List.getElem_cons_zero]
  go_simp
  refine (hcs.out _ (hHeld rfl)).mono ?_
  rintro e u1 ⟨sa2, sc2, rfl, hT1, hb1⟩
  have hT1 := Lib.hid hT1
  refine hK.out _ _ ?_ (fun hHeld1 => ?_)
  · exact fun _ => bNext (hHeld rfl) hb1 (Nat.le_refl _)
  clear hK K
  try simp only [Act.put, List.setIfInBounds_toArray, List.set_cons_zero, List.set_cons_succ]
  refine Stg.wpAnyL_start (n' := 6) (l' := #[true, true, true, true, true, true, false, false, false, false, false, false]) (by kernel_rfl) (by kernel_rfl) ?_
  refine Stg.wpAnyL_free (i := 7) (v := ?_) 0 rfl (by kernel_rfl) (by kernel_rfl) (by kernel_rfl) (by kernel_rfl) (by kernel_rfl) (fun _ _ _ h => h) (Or.inl ⟨by kernel_rfl, ?_⟩) (by assumption) ?_
  rotate_left
  · intro u _
    try simp only [List.getElem_toArray, List.getElem_cons_succ, List.getElem_cons_zero]
    go_simp
    try with_reducible rfl
  try simp only [Act.put, List.setIfInBounds_toArray, List.set_cons_zero, List.set_cons_succ]
  refine Stg.wpAnyL_free (i := 8) (v := ?_) 0 rfl (by kernel_rfl) (by kernel_rfl) (by kernel_rfl) (by kernel_rfl) (by kernel_rfl) (fun _ _ _ h => h) (Or.inl ⟨by kernel_rfl, ?_⟩) (by assumption) ?_
  rotate_left
  · intro u _
    try simp only [List.getElem_toArray, List.getElem_cons_succ, List.getElem_cons_zero]
    go_simp
    try with_reducible rfl
  try simp only [Act.put, List.setIfInBounds_toArray, List.set_cons_zero, List.set_cons_succ]
  refine Stg.wpAnyL_one (i := 6) 0 rfl (by kernel_rfl) (by kernel_rfl) (fun K hK => ?_)
  try simp only [List.getElem_toArray, List.getElem_cons_succ, List.getElem_cons_zero]
  go_simp
  refine (hcd.out _ (hHeld1 rfl)).mono ?_
  rintro e u2 ⟨da2, dc2, rfl, hT2, hb2⟩
  have hT3 := Lib.hid (hT1.out.ty (Ty.of hb2))
  have hT2 := Lib.hid hT2
  refine hK.out _ _ ?_ (fun hHeld2 => ?_)
  · exact fun _ => bNext (hHeld1 rfl) hb2 (Nat.le_refl _)
  clear hK K
  try simp only [Act.put, List.setIfInBounds_toArray, List.set_cons_zero, List.set_cons_succ]
  refine Stg.wpAnyL_start (n' := 3) (l' := #[true, true, true, true, true, true, true, true, true, false, false, false]) (by kernel_rfl) (by kernel_rfl) ?_
  refine Stg.wpAnyL_one (i := 9) 1 rfl (by kernel_rfl) (by kernel_rfl) (fun K hK => ?_)
  have hbz := hHeld2 rfl
  have bq := bx3.out.bel hbz
  have y12 := bq.c 12 _ rfl
  have yf12 := bq.f 12
  have y13 := bq.c 13 _ rfl
  have yf13 := bq.f 13
  try simp only [List.getElem_toArray, List.getElem_cons_succ, List.getElem_cons_zero]
  go_simp
  refine hK.out _ _ ?_ (fun hHeld3 => ?_)
  · exact fun h => absurd h (by decide)
  clear hK K
  try simp only [Act.put, List.setIfInBounds_toArray, List.set_cons_zero, List.set_cons_succ]
  refine Stg.wpAnyL_free (i := 10) (v := ?_) 1 rfl (by kernel_rfl) (by kernel_rfl) (by kernel_rfl) (by kernel_rfl) (by kernel_rfl) (fun _ _ _ h => h) (Or.inl ⟨by kernel_rfl, ?_⟩) (by assumption) ?_
  rotate_left
  · intro u _
    try simp only [List.getElem_toArray, List.getElem_cons_succ, List.getElem_cons_zero]
    go_simp
    try with_reducible rfl
  try simp only [Act.put, List.setIfInBounds_toArray, List.set_cons_zero, List.set_cons_succ]
  refine Stg.wpAnyL_one (i := 11) 2 rfl (by kernel_rfl) (by kernel_rfl) (fun K hK => ?_)
  try simp only [List.getElem_toArray, List.getElem_cons_succ, List.getElem_cons_zero]
  go_simp
  refine hK.out _ _ ?_ (fun hHeld4 => ?_)
  · exact fun h => absurd h (by decide)
  clear hK K
  try simp only [Act.put, List.setIfInBounds_toArray, List.set_cons_zero, List.set_cons_succ]
  refine Stg.wpAnyL_done (by kernel_rfl) ?_ _
  try simp only [List.getElem_toArray, List.getElem_cons_succ, List.getElem_cons_zero]
  try simp only [Act.put, List.setIfInBounds_toArray, List.set_cons_zero, List.set_cons_succ]
  refine NoPanic.normal ?_
  have bx4 := (bx3.out.bel hbz).set 12 (.slice sa2 sn sc2)
  have bx5 := bx4.set 13 (.slice da2 dn dc2)
  have d5 := ((d3.out.bel hbz).other (q := xb) (o := 12) (by omega) (.slice sa2 sn sc2)).other (q := xb) (o := 13) (by omega) (.slice da2 dn dc2)
  have tf5 := ((bx3.out.bel hbz).tf (o := 12) msg_ne_u8 msg_ne_entry (.slice sa2 sn sc2)).trans (bx4.tf (o := 13) msg_ne_u8 msg_ne_entry (.slice da2 dn dc2))
  have hB5 := ((bNext hB3.out hbz (by have := hB3.out.size; have := hxb.out; omega)).setCell (p := ⟨xb, 12, none⟩) (Nat.le_refl _) (.slice sa2 sn sc2)).setCell (p := ⟨xb, 13, none⟩) (Nat.le_refl _) (.slice da2 dn dc2)
  have hE5 := (hE3.out.tf (Tf.of hbz)).tf tf5
  have hS5 := hT3.out.ty tf5.u
  have hD5 := hT2.out.ty tf5.u
  clear bx4 tf5 y12 y13 yf12 yf13 bq
  generalize (u2.setCell ⟨xb, 12, none⟩ (.slice sa2 sn sc2)).setCell ⟨xb, 13, none⟩ (.slice da2 dn dc2) = W5 at bx5 d5 hB5 hE5 hS5 hD5 ⊢

  have z0 := bx5.c 0 _ rfl
  have z1 := bx5.c 1 _ rfl
  have z2 := bx5.c 2 _ rfl
  have z3 := bx5.c 3 _ rfl
  have z4 := bx5.c 4 _ rfl
  have z5 := bx5.c 5 _ rfl
  have z6 := bx5.c 6 _ rfl
  have z7 := bx5.c 7 _ rfl
  have z8 := bx5.c 8 _ rfl
  have z9 := bx5.c 9 _ rfl
  have z10 := bx5.c 10 _ rfl
  have z11 := bx5.c 11 _ rfl
  have z12 := bx5.c 12 _ rfl
  have z13 := bx5.c 13 _ rfl
  have q0 := d5.c 0 _ rfl
  have q1 := d5.c 1 _ rfl
  have q2 := d5.c 2 _ rfl
  have q3 := d5.c 3 _ rfl
  have q4 := d5.c 4 _ rfl
  have q5 := d5.c 5 _ rfl
  have q6 := d5.c 6 _ rfl
  have q7 := d5.c 7 _ rfl
  have q8 := d5.c 8 _ rfl
  have q9 := d5.c 9 _ rfl
  have q10 := d5.c 10 _ rfl
  have q11 := d5.c 11 _ rfl
  have q12 := d5.c 12 _ rfl
  have q13 := d5.c 13 _ rfl
  have qf := d5.f
  obtain ⟨k1, k2, k3⟩ := put14 d5 (.int .i8 m.f.k) (.int .i64 m.f.fr) (.int .i64 m.f.to) (.int .i64 m.f.te) (.int .i64 m.f.ix) (.int .i64 m.f.la) (.int .i64 m.f.co) (.bool m.f.ok) (.slice ea2 en ec2) (.int .i64 m.f.si) (.int .i64 m.f.st) (.int .u8 m.f.su) (.slice sa2 sn sc2) (.slice da2 dn dc2)

  have s0 := Lib.hid (k1.c 0 _ rfl)
  have s1 := Lib.hid (k1.c 1 _ rfl)
  have s2 := Lib.hid (k1.c 2 _ rfl)
  have s3 := Lib.hid (k1.c 3 _ rfl)
  have s4 := Lib.hid (k1.c 4 _ rfl)
  have s5 := Lib.hid (k1.c 5 _ rfl)
  have s6 := Lib.hid (k1.c 6 _ rfl)
  have s7 := Lib.hid (k1.c 7 _ rfl)
  have s8 := Lib.hid (k1.c 8 _ rfl)
  have s9 := Lib.hid (k1.c 9 _ rfl)
  have s10 := Lib.hid (k1.c 10 _ rfl)
  have s11 := Lib.hid (k1.c 11 _ rfl)
  have s12 := Lib.hid (k1.c 12 _ rfl)
  have s13 := Lib.hid (k1.c 13 _ rfl)
  have kE := Lib.hid (hE5.tf k2)
  have kS := Lib.hid (hS5.ty k2.u)
  have kD := Lib.hid (hD5.ty k2.u)
  have kB := Lib.hid (k3 _ _ hB5 (by omega))
  clear k1 k2 k3 hE5 hS5 hD5 hB5 bx5 d5
  go_wp2_with fail
  refine bodyPost_ret (v := .agg #[.int .i8 m.f.k, .int .i64 m.f.fr, .int .i64 m.f.to, .int .i64 m.f.te, .int .i64 m.f.ix, .int .i64 m.f.la, .int .i64 m.f.co, .bool m.f.ok, .slice ea2 en ec2, .int .i64 m.f.si, .int .i64 m.f.st, .int .u8 m.f.su, .slice sa2 sn sc2, .slice da2 dn dc2]) (by simp [results, Try.results22, go_sem, s0.out, s1.out, s2.out, s3.out, s4.out, s5.out, s6.out, s7.out, s8.out, s9.out, s10.out, s11.out, s12.out, s13.out]) rfl ?_
  exact ⟨⟨m.f, ea2, en, ec2, sa2, sn, sc2, da2, dn, dc2⟩, rfl, ⟨rfl, kE.out, kS.out, kD.out⟩, by rw [hxb.out]; exact kB.out⟩
end Go.Proofs.Ytnokojobiaddmaa
