/- Messages with entries and bytes: the program's copies. -/
import Derived.Test.YtnokojobiaddmaaP1
namespace Go.Proofs.Ytnokojobiaddmaa
open Go.ChangeShapes Go.WideShapes Go.ChangeAt Go.RowKit
set_option linter.unusedVariables false
set_option linter.unusedSimpArgs false
open BigFrame Bs By Am

theorem eqlP_nil (c : Nat) (u : World) : Sem.run Try.prog (binOp BinOp.eql 30 (.slice none 0 c) (.slice none 0 0)) u = .ok (.bool true) u := by rfl
theorem eqlP_some (a : Addr) (l c : Nat) (u : World) : Sem.run Try.prog (binOp BinOp.eql 30 (.slice (some a) l c) (.slice none 0 0)) u = .ok (.bool false) u := by rfl
attribute [local go_sem] eqlP_nil eqlP_some

namespace Am
/-- What a copy of bytes is. -/
def CloT (w : World) (n : Nat) (d : List Nat) (e : Ending) (w' : World) : Prop := ∃ a c, e = .returned (.slice a n c) ∧ TB w' a n c d ∧ Below w.heap.size w w'
def CloE (w : World) (y : En) (e : Ending) (w' : World) : Prop := ∃ a n c, e = .returned (.agg #[.int .i64 y.term, .int .i8 y.kind, .int .i64 y.stamp, .int .u8 y.set, .slice a n c]) ∧ TB w' a n c y.d ∧ Below w.heap.size w w'
def EachP (w : World) (n : Nat) (l : List En) (e : Ending) (w' : World) : Prop := ∃ a c, e = .returned (.slice a n c) ∧ TE w' a n c l ∧ Below w.heap.size w w'
end Am

set_option maxRecDepth 100000 in
set_option maxHeartbeats 2000000 in
theorem cloneT_c (a : Option Addr) (n cap : Nat) (d : List Nat) (w : World) (h : Byt w a n cap d) (hn2 : n ≤ 1000000) :
    Calls Try.prog 39 #[.slice a n cap] w (CloT w n d) := by
  cases a with
  | none =>
    have hn : n = 0 := by
      rcases Nat.eq_zero_or_pos n with h0 | h0
      · exact h0
      · obtain ⟨b, o, hh, _⟩ := h.row h0; cases hh
    subst hn
    have hd : d = [] := List.eq_nil_of_length_eq_zero h.len.symm
    subst hd
    clear h
    go_enter Try.func39, Try.ntmps39
    go_wp2_with fail
    go_ret
    exact ⟨_, _, rfl, TB.nil _ _ _ (by omega), Below.refl _ _⟩
  | some ad =>
    obtain ⟨i0, hi0, hz0, hz1, hz2⟩ := info_parts info_u8P
    have hown0 : (w.alloc (.cells #[] 5)).ownsRow w.heap.size 5 1 (.slice (some ⟨w.heap.size, 0, none⟩) 0 0) 0 [] := World.ownsRow_lit (base := w.heap.size) (e := 5) (size := 1) w #[] 0 (Nat.le_refl _) (by unfold maxLen; omega) (by rfl)
    have hB0 : Below w.heap.size w (w.alloc (.cells #[] 5)) := (Below.refl _ _).alloc (Nat.le_refl _) _
    have hcells : 0 < n → ∃ ad', some ad = some ad' ∧ ∀ j u, (bvals d)[j]? = some u → (w.alloc (.cells #[] 5)).cell? (ad'.add j) = some u := fun hp => by
      obtain ⟨b, o, hh, hb, hc⟩ := h.row hp
      cases hh
      refine ⟨_, rfl, fun j u hu => ?_⟩
      obtain ⟨x, hx, rfl⟩ := bvals_at hu
      rw [Addr.add_lit]
      exact (hB0.cell (p := ⟨b, o + j, none⟩) hb).trans (hc j x hx).1
    have hlen : (bvals d).length = n * 1 := by rw [bvals_len, h.len]; omega
    have hmx : 0 + n ≤ maxLen := by unfold maxLen; omega
    have hlt := h.lt
    have hdl := h.len
    replace hlt := Lib.hid hlt
    replace hdl := Lib.hid hdl
    clear h
    go_enter Try.func39, Try.ntmps39
    go_wp2_with (at_builtin; refine wpList_append_src rfl _ _ 30 (by rfl) w.heap.size 5 i0 _ 1 1 Try.underlying30 hi0 hz0 hz1 hz2 (by rfl) (by omega) _ _ _ (by rfl) hown0 _ n cap _ (by rfl) hlen hcells (bvals_one _) hmx (by omega) hB0.size ?_; intro v1 w3 hown1 hgrow1 hat1)
    have hB3 : Below w.heap.size w w3 := hB0.grown hgrow1 hB0.size (fun q hq => by have := (hown0.lt q hq).1; omega)
    go_ret
    obtain ⟨a, c, rfl, hT⟩ := TB.of_own hown1 hlt.out hdl.out (by omega)
    exact ⟨_, _, rfl, hT, hB3⟩

set_option maxRecDepth 100000 in
set_option maxHeartbeats 2000000 in
/-- The closure that copies an entry. -/
theorem cloE_c (y : En) (a : Option Addr) (n c : Nat) (w : World) (h : Byt w a n c y.d) (hn : n ≤ 1000000) :
    Calls Try.prog 38 #[.agg #[.int .i64 y.term, .int .i8 y.kind, .int .i64 y.stamp, .int .u8 y.set, .slice a n c]] w (CloE w y) := by
  have bx := HT.new w #[.int .i64 y.term, .int .i8 y.kind, .int .i64 y.stamp, .int .u8 y.set, .slice a n c] 69
  have hb0 : Below w.heap.size w (w.alloc (.cells #[.int .i64 y.term, .int .i8 y.kind, .int .i64 y.stamp, .int .u8 y.set, .slice a n c] 69)) := (Below.refl _ _).alloc (Nat.le_refl _) _
  have b2 := HT.new (w.alloc (.cells #[.int .i64 y.term, .int .i8 y.kind, .int .i64 y.stamp, .int .u8 y.set, .slice a n c] 69)) #[.int .i64 0, .int .i8 0, .int .i64 0, .int .u8 0, .slice none 0 0] 69
  rw [World.size_alloc] at b2
  have bx1 := bx.bel ((Below.refl _ _).alloc (Nat.le_refl _) (.cells #[.int .i64 0, .int .i8 0, .int .i64 0, .int .u8 0, .slice none 0 0] 69))
  have hb1 := hb0.alloc (by simp) (.cells #[.int .i64 0, .int .i8 0, .int .i64 0, .int .u8 0, .slice none 0 0] 69)
  have hcl := Lib.hid (cloneT_c a n c y.d _ (h.bel hb1) hn)
  have hnl := Lib.hid h.len
  replace hb1 := Lib.hid hb1
  replace bx1 := Lib.hid bx1
  replace b2 := Lib.hid b2
  clear h bx hb0
  go_enter Try.func38, Try.ntmps38
  go_upto_region 1 with fail
  have hb1 := hb1.out
  have bx1 := bx1.out
  have b2 := b2.out
  have hcl := hcl.out
  generalize hW : ((w.alloc (.cells #[.int .i64 y.term, .int .i8 y.kind, .int .i64 y.stamp, .int .u8 y.set, .slice a n c] 69)).alloc (.cells #[.int .i64 0, .int .i8 0, .int .i64 0, .int .u8 0, .slice none 0 0] 69)) = W1 at hb1 bx1 b2 hcl ⊢
  clear hW
  generalize hxb : w.heap.size = xb at bx1 b2 hcl ⊢
  rw [hxb] at hb1
  have hle := hb1.size
  replace hxb := Lib.hid hxb
  replace hb1 := Lib.hid hb1
  have y4 := bx1.c 4 _ rfl
  go_wp2_with fail
  refine hcl.mono ?_
  rintro e w2 ⟨a2, c2, rfl, hT, hb2⟩
  have bx2 := bx1.bel hb2
  have d2 := b2.bel hb2
  have hB2 := bNext hb1.out hb2 (by have := hxb.out; omega)
  have y4 := bx2.c 4 _ rfl
  have yf := bx2.f 4
  have bx3 := bx2.set 4 (.slice a2 n c2)
  have d3 := d2.other (q := xb) (o := 4) (by omega) (.slice a2 n c2)
  have hT3 := hT.ty (bx2.ty (o := 4) u8_ne_entry (.slice a2 n c2))
  have hB3 := hB2.setCell (p := ⟨xb, 4, none⟩) (Nat.le_refl _) (.slice a2 n c2)
  have z0 := Lib.hid (bx3.c 0 (.int .i64 y.term) rfl)
  have z1 := Lib.hid (bx3.c 1 (.int .i8 y.kind) rfl)
  have z2 := Lib.hid (bx3.c 2 (.int .i64 y.stamp) rfl)
  have z3 := Lib.hid (bx3.c 3 (.int .u8 y.set) rfl)
  have z4 := Lib.hid (bx3.c 4 (.slice a2 n c2) rfl)
  have u0 := Lib.hid (d3.c 0 _ rfl)
  have u1 := Lib.hid (d3.c 1 _ rfl)
  have u2 := Lib.hid (d3.c 2 _ rfl)
  have u3 := Lib.hid (d3.c 3 _ rfl)
  have u4 := Lib.hid (d3.c 4 _ rfl)
  have uf := Lib.hid d3.f
  have d4 := ((((d3.set 0 (.int .i64 y.term)).set 1 (.int .i8 y.kind)).set 2 (.int .i64 y.stamp)).set 3 (.int .u8 y.set)).set 4 (.slice a2 n c2)
  have hT4 := hT3.ty (((((d3.ty (o := 0) u8_ne_entry (.int .i64 y.term)).trans ((d3.set 0 (.int .i64 y.term)).ty (o := 1) u8_ne_entry (.int .i8 y.kind))).trans (((d3.set 0 (.int .i64 y.term)).set 1 (.int .i8 y.kind)).ty (o := 2) u8_ne_entry (.int .i64 y.stamp))).trans ((((d3.set 0 (.int .i64 y.term)).set 1 (.int .i8 y.kind)).set 2 (.int .i64 y.stamp)).ty (o := 3) u8_ne_entry (.int .u8 y.set))).trans (((((d3.set 0 (.int .i64 y.term)).set 1 (.int .i8 y.kind)).set 2 (.int .i64 y.stamp)).set 3 (.int .u8 y.set)).ty (o := 4) u8_ne_entry (.slice a2 n c2)))
  have hB4 := ((((hB3.setCell (p := ⟨xb + 1, 0, none⟩) (by simp) (.int .i64 y.term)).setCell (p := ⟨xb + 1, 1, none⟩) (by simp) (.int .i8 y.kind)).setCell (p := ⟨xb + 1, 2, none⟩) (by simp) (.int .i64 y.stamp)).setCell (p := ⟨xb + 1, 3, none⟩) (by simp) (.int .u8 y.set)).setCell (p := ⟨xb + 1, 4, none⟩) (by simp) (.slice a2 n c2)
  have s0 := Lib.hid (d4.c 0 _ rfl)
  have s1 := Lib.hid (d4.c 1 _ rfl)
  have s2 := Lib.hid (d4.c 2 _ rfl)
  have s3 := Lib.hid (d4.c 3 _ rfl)
  have s4 := Lib.hid (d4.c 4 _ rfl)
  replace hT4 := Lib.hid hT4
  replace hB4 := Lib.hid hB4
  clear bx1 b2 hcl hT hb2 bx2 d2 hB2 bx3 d3 hT3 hB3 d4
  go_upto_region 2 with fail
  have z0 := z0.out
  have z1 := z1.out
  have z2 := z2.out
  have z3 := z3.out
  have z4 := z4.out
  have u0 := u0.out
  have u1 := u1.out
  have u2 := u2.out
  have u3 := u3.out
  have u4 := u4.out
  have uf := uf.out
  generalize (w2.setCell ⟨xb, 4, none⟩ (.slice a2 n c2)) = W3 at z0 z1 z2 z3 z4 u0 u1 u2 u3 u4 uf s0 s1 s2 s3 s4 hT4 hB4 ⊢
  clear y4 yf
  go_wp2_with fail
  refine bodyPost_ret (v := .agg #[.int .i64 y.term, .int .i8 y.kind, .int .i64 y.stamp, .int .u8 y.set, .slice a2 n c2]) (by simp [results, Try.results38, go_sem, s0.out, s1.out, s2.out, s3.out, s4.out]) rfl ?_
  exact ⟨_, _, _, rfl, hT4.out, by rw [hxb.out]; exact hB4.out⟩

set_option maxRecDepth 100000 in
set_option maxHeartbeats 4000000 in
theorem eachE_c (a : Option Addr) (n cap : Nat) (l : List En) (w : World) (h : LA w a n cap l) (hn2 : n ≤ 20000) (hd : ∀ y ∈ l, y.d.length ≤ 20000) :
    Calls Try.prog 37 #[.slice a n cap, .func (.func 38) #[] #[]] w (EachP w n l) := by
  have hn3 : (n : Int) ≤ 20000 := by omega
  have hlen := Lib.hid h.len
  obtain ⟨j0, hj0, hy0, hy1, hy2⟩ := info_parts info_entryP
  go_enter Try.func37, Try.ntmps37
  go_wp2_with fail
  go_loopw [4, 9] (fun v i wr => ∃ k : Nat, k ≤ n ∧ i = .int .i64 (k : Nat) ∧ Rnd w l v k wr) (fun _ i _ => n - (intOf i).toNat)
  case atStart => exact ⟨0, by omega, rfl, Rnd.start w l⟩
  case round =>
    obtain ⟨k, hk, rfl, hR⟩ := hrel
    by_cases hlt : k < n
    · have hlt' : (k : Int) < (n : Int) := by omega
      obtain ⟨es, hes, hl, hp, hB⟩ := hR
      obtain ⟨y, hy⟩ : ∃ y, l[k]? = some y := ⟨_, List.getElem?_eq_getElem (show k < l.length by have := hlen.out; omega)⟩
      obtain ⟨b, o, xa, xn, xc, rfl, hb, x0, x1, x2, x3, x4, hbyt⟩ := (h.bel hB).ent hy
      have hdl : xn ≤ 1000000 := by have := hd y (List.mem_of_getElem? hy); rw [hbyt.len]; omega
      have bx := HT.new wr #[.int .i64 y.term, .int .i8 y.kind, .int .i64 y.stamp, .int .u8 y.set, .slice xa xn xc] 69
      have hb1 : Below wr.heap.size wr (wr.alloc (.cells #[.int .i64 y.term, .int .i8 y.kind, .int .i64 y.stamp, .int .u8 y.set, .slice xa xn xc] 69)) := (Below.refl _ _).alloc (Nat.le_refl _) _
      have hcl := Lib.hid (cloE_c y xa xn xc _ (hbyt.bel hb1) hdl)
      have hmx2 : k + 1 ≤ maxLen := by unfold maxLen; omega
      have hsz := hB.size
      replace hy := Lib.hid hy
      replace hes := Lib.hid hes
      replace hp := Lib.hid hp
      replace hB := Lib.hid hB
      replace hb1 := Lib.hid hb1
      replace hl := Lib.hid hl
      clear bx hbyt
      go_wp2_with fail
      refine hcl.out.mono ?_
      rintro e w3 ⟨a2, n2, c2, rfl, hT, hb3⟩
      have hB3 := bNext hb1.out hb3 (by simp)
      have hb4 := hB3.alloc hB3.size (.cells #[.int .i64 y.term, .int .i8 y.kind, .int .i64 y.stamp, .int .u8 y.set, .slice a2 n2 c2] 69)
      have hown4 := own_bel hes.out hb4
      have hT4 := hT.ty (Ty.of ((Below.refl _ _).alloc (Nat.le_refl _) (.cells #[.int .i64 y.term, .int .i8 y.kind, .int .i64 y.stamp, .int .u8 y.set, .slice a2 n2 c2] 69)))
      have hnew4 := World.news_of_block (heap_alloc_new w3 (.cells #[.int .i64 y.term, .int .i8 y.kind, .int .i64 y.stamp, .int .u8 y.set, .slice a2 n2 c2] 69))
      have hs3 := hB3.size
      replace hb4 := Lib.hid hb4
      replace hown4 := Lib.hid hown4
      replace hT4 := Lib.hid hT4
      replace hnew4 := Lib.hid hnew4
      clear hT hb3 hB3 x0 x1 x2 x3 x4 hcl
      go_wp2_with (at_builtin; refine wpList_append_src rfl _ _ 29 (by rfl) w.heap.size 69 j0 _ 5 56 Try.underlying29 hj0 hy0 hy1 hy2 (by rfl) (by omega) _ k _ (by rfl) hown4.out (some ⟨w3.heap.size, 0, none⟩) 1 1 (cellsE ⟨y.term, y.kind, y.stamp, y.set, a2, n2, c2⟩) (by rfl) (by rfl) (fun _ => ⟨_, rfl, fun j u hu => hnew4.out j u (by simpa [cellsE] using hu)⟩) (cellsE_one _) hmx2 (by omega) (by simp; omega) ?_; intro v5 w5 hown5 hgrow5 hat5)
      have hR5 := Lib.hid (Rnd.next hy.out hes.out hl.out hp.out hB.out hb4.out hT4.out hown5 hgrow5)
      clear hown5 hgrow5 hat5
      go_wp2_with fail
      go_roundw
      case rel => exact ⟨k + 1, by omega, by go_num, hR5.out⟩
      case measure => simp [intOf]; omega
    · obtain rfl : k = n := by omega
      obtain ⟨⟨a', c', rfl, hT⟩, hB⟩ := hR.te hlen.out
      replace hT := Lib.hid hT
      go_wp2_with fail
      go_ret
      exact ⟨_, _, rfl, hT.out, hB⟩
end Go.Proofs.Ytnokojobiaddmaa
