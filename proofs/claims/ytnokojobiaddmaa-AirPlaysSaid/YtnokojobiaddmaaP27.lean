/- The air: are all messages told. -/
import Derived.Test.YtnokojobiaddmaaP26
namespace Go.Proofs.Ytnokojobiaddmaa
open Go.ChangeShapes Go.WideShapes Go.ChangeAt Go.RowKit Go.Shelf
set_option linter.unusedVariables false
set_option linter.unusedSimpArgs false
open BigFrame Bs By Am Ar
attribute [local go_sem] Oper.semAt_some

namespace Ar
/-- The frame behind the region. -/
def RegT (w : World) (g b len cap : Nat) (leave : Int) (k xb : Nat) (x : Mg) (r : RM) (a : Act) : Prop := ∃ (t18 t19 t20 t21 t22 t23 t24 t25 t26 t27 t28 t29 t30 t31 t32 t33 t34 : Value), a = { tmps := #[.pointer (some ⟨g, 0, none⟩), .slice (some ⟨b, 0, none⟩) len cap, .int .i64 leave, undef, .pointer (some ⟨w.heap.size, 0, none⟩), .pointer (some ⟨w.heap.size + 1, 0, none⟩), .pointer (some ⟨w.heap.size + 1 + 1, 0, none⟩), .pointer (some ⟨w.heap.size + 1 + 1 + 1, 0, none⟩), .func (.func 46) #[] #[.pointer (some ⟨w.heap.size + 1 + 1 + 1 + 1, 0, none⟩)], .int .i64 (k : Nat), .pointer (some ⟨xb, 0, none⟩), .pointer (some ⟨g, 0, none⟩), .func (.func 46) #[] #[.pointer (some ⟨w.heap.size + 1 + 1 + 1 + 1, 0, none⟩)], .func (.func 46) #[] #[.pointer (some ⟨w.heap.size + 1 + 1 + 1 + 1, 0, none⟩)], .bool false, .func (.func 46) #[] #[.pointer (some ⟨w.heap.size + 1 + 1 + 1 + 1, 0, none⟩)], .int .i64 (k : Nat), .agg #[.int .i8 x.f.k, .int .i64 x.f.fr, .int .i64 x.f.to, .int .i64 x.f.te, .int .i64 x.f.ix, .int .i64 x.f.la, .int .i64 x.f.co, .bool x.f.ok, .slice r.ea r.en r.ec, .int .i64 x.f.si, .int .i64 x.f.st, .int .u8 x.f.su, .slice r.sa r.sn r.sc, .slice r.da r.dn r.dc], t18, t19, t20, t21, t22, t23, t24, t25, t26, t27, t28, t29, t30, t31, t32, t33, t34, .bool false, undef, undef, undef, undef, undef, undef, undef, undef, undef, undef, undef, undef, undef, undef], defers := [] }
theorem Ty.own {t : TypeId} {W U : World} {row : Option Nat} (hg : W.grownBy U row) (hr : ∀ r, row = some r → ∃ o : Obj, W.heap[r]? = some o ∧ o.isCells = false) : Ty t W U := fun b cs hb => by
  refine (hg.block b (Array.getElem?_eq_some_iff.1 hb).1 (fun e => ?_)).trans hb
  obtain ⟨o, h1, h2⟩ := hr b e.symm
  rw [hb] at h1
  cases h1
  cases h2
theorem _root_.Go.Proofs.Ytnokojobiaddmaa.Am.TM.own {W U : World} {row : Option Nat} {r : RM} {x : Mg} (h : TM W r x) (hg : W.grownBy U row) (hr : ∀ r, row = some r → ∃ o : Obj, W.heap[r]? = some o ∧ o.isCells = false) : TM U r x := h.tf ⟨Ty.own hg hr, Ty.own hg hr⟩
theorem _root_.Go.Proofs.Ytnokojobiaddmaa.Am.HT.own {W U : World} {row : Option Nat} {b : Nat} {cs : Array Value} {t : TypeId} (h : HT W b cs t) (hg : W.grownBy U row) (hr : ∀ r, row = some r → ∃ o : Obj, W.heap[r]? = some o ∧ o.isCells = false) : HT U b cs t := ⟨Ty.own (t := t) hg hr b cs h.h⟩
/-- The frame of a round of told. -/
def AxT (w : World) (g : Nat) (la : Option Addr) (len cap : Nat) (leave : Int) (ms : List Mg) (pre : List (Nat × Value)) (y : Nat × Value) (a' : Act) (W : World) : Prop :=
  ∃ (xb : Nat) (x : Mg) (r : RM), ms[pre.length]? = some x ∧ y = (pre.length, .agg #[.int .i8 x.f.k, .int .i64 x.f.fr, .int .i64 x.f.to, .int .i64 x.f.te, .int .i64 x.f.ix, .int .i64 x.f.la, .int .i64 x.f.co, .bool x.f.ok, .slice r.ea r.en r.ec, .int .i64 x.f.si, .int .i64 x.f.st, .int .u8 x.f.su, .slice r.sa r.sn r.sc, .slice r.da r.dn r.dc]) ∧
    a' = { tmps := #[.pointer (some ⟨g, 0, none⟩), .slice la len cap, .int .i64 leave, undef, .pointer (some ⟨w.heap.size, 0, none⟩), .pointer (some ⟨w.heap.size + 1, 0, none⟩), .pointer (some ⟨w.heap.size + 1 + 1, 0, none⟩), .pointer (some ⟨w.heap.size + 1 + 1 + 1, 0, none⟩), .func (.func 46) #[] #[.pointer (some ⟨w.heap.size + 1 + 1 + 1 + 1, 0, none⟩)], .int .i64 (pre.length : Nat), .pointer (some ⟨xb, 0, none⟩), .pointer (some ⟨g, 0, none⟩), .func (.func 46) #[] #[.pointer (some ⟨w.heap.size + 1 + 1 + 1 + 1, 0, none⟩)], .func (.func 46) #[] #[.pointer (some ⟨w.heap.size + 1 + 1 + 1 + 1, 0, none⟩)], .bool false, .func (.func 46) #[] #[.pointer (some ⟨w.heap.size + 1 + 1 + 1 + 1, 0, none⟩)], .int .i64 (pre.length : Nat), .agg #[.int .i8 x.f.k, .int .i64 x.f.fr, .int .i64 x.f.to, .int .i64 x.f.te, .int .i64 x.f.ix, .int .i64 x.f.la, .int .i64 x.f.co, .bool x.f.ok, .slice r.ea r.en r.ec, .int .i64 x.f.si, .int .i64 x.f.st, .int .u8 x.f.su, .slice r.sa r.sn r.sc, .slice r.da r.dn r.dc], undef, undef, undef, undef, undef, undef, undef, undef, undef, undef, undef, undef, undef, undef, undef, undef, undef, undef, undef, undef, undef, undef, undef, undef, undef, undef, undef, undef, undef, undef, undef, undef], defers := [] } ∧ TM W r x ∧ HT W xb #[.int .i8 x.f.k, .int .i64 x.f.fr, .int .i64 x.f.to, .int .i64 x.f.te, .int .i64 x.f.ix, .int .i64 x.f.la, .int .i64 x.f.co, .bool x.f.ok, .slice r.ea r.en r.ec, .int .i64 x.f.si, .int .i64 x.f.st, .int .u8 x.f.su, .slice r.sa r.sn r.sc, .slice r.da r.dn r.dc] 34
theorem AxT.own {w : World} {g : Nat} {la : Option Addr} {len cap : Nat} {leave : Int} {ms : List Mg} (pre : List (Nat × Value)) (y : Nat × Value) (a' : Act) : OwnFrom w.heap.size (fun (_ : Unit) W => AxT w g la len cap leave ms pre y a' W) := fun _ A B row ⟨xb, x, r, h1, h2, h3, h4, h5⟩ hg hr =>
  ⟨xb, x, r, h1, h2, h3, h4.own hg (fun r e => (hr r e).2), h5.own hg (fun r e => (hr r e).2)⟩
/-- The law's own cells. -/
def CeT (w : World) (g : Nat) (la : Option Addr) (len cap : Nat) (leave : Int) (k : Nat) (W : World) : Prop := W.cell? ⟨w.heap.size, 0, none⟩ = some (.slice la len cap) ∧ W.cell? ⟨w.heap.size + 1, 0, none⟩ = some (.int .i64 leave) ∧ W.cell? ⟨w.heap.size + 1 + 1, 0, none⟩ = some (.bool false) ∧ W.frozen? ⟨w.heap.size + 1 + 1, 0, none⟩ = false ∧ W.cell? ⟨w.heap.size + 1 + 1 + 1, 0, none⟩ = some (.int .i64 (k : Nat)) ∧ W.frozen? ⟨w.heap.size + 1 + 1 + 1, 0, none⟩ = false ∧ W.cell? ⟨w.heap.size + 1 + 1 + 1 + 1, 0, none⟩ = some (.pointer (some ⟨g, 0, none⟩))
theorem CeT.bel {w W U : World} {g : Nat} {la : Option Addr} {len cap : Nat} {leave : Int} {k : Nat} (h : CeT w g la len cap leave k W) (hb : Below W.heap.size W U) : CeT w g la len cap leave k U :=
  ⟨cellB hb h.1, cellB hb h.2.1, cellB hb h.2.2.1, (hb.frozen (p := ⟨w.heap.size + 1 + 1, 0, none⟩) (World.block_lt_of_cell? _ _ h.2.2.1)).trans h.2.2.2.1, cellB hb h.2.2.2.2.1, (hb.frozen (p := ⟨w.heap.size + 1 + 1 + 1, 0, none⟩) (World.block_lt_of_cell? _ _ h.2.2.2.2.1)).trans h.2.2.2.2.2.1, cellB hb h.2.2.2.2.2.2⟩
theorem CeT.up {w W : World} {g : Nat} {la : Option Addr} {len cap : Nat} {leave : Int} {k : Nat} (h : CeT w g la len cap leave k W) : CeT w g la len cap leave (k + 1) (W.setCell ⟨w.heap.size + 1 + 1 + 1, 0, none⟩ (.int .i64 ((k : Int) + 1))) :=
  ⟨(World.cell?_setCell_other _ _ _ _ (by simp <;> omega)).trans h.1, (World.cell?_setCell_other _ _ _ _ (by simp <;> omega)).trans h.2.1, (World.cell?_setCell_other _ _ _ _ (by simp <;> omega)).trans h.2.2.1, (World.frozen?_setCell _ _ _ _).trans h.2.2.2.1, World.cell?_setCell_same _ _ _ h.2.2.2.2.1, (World.frozen?_setCell _ _ _ _).trans h.2.2.2.2.2.1, (World.cell?_setCell_other _ _ _ _ (by simp <;> omega)).trans h.2.2.2.2.2.2⟩
theorem keepsB {B : Nat} {W U : World} (h : Below W.heap.size W U) : KeepsFrom B W U := ⟨h.size, fun k o _ hk _ => (h.block k (Array.getElem?_eq_some_iff.1 hk).1).trans hk⟩
theorem CeT.own {β : Type} (w : World) (g : Nat) (la : Option Addr) (len cap : Nat) (leave : Int) (f : β → Nat) : Own (fun (s : β) W => CeT w g la len cap leave (f s) W) := fun s A B row h hg hr => ⟨cell_kept h.1 hg hr, cell_kept h.2.1 hg hr, cell_kept h.2.2.1 hg hr, (frozen_kept h.2.2.1 hg hr).trans h.2.2.2.1, cell_kept h.2.2.2.2.1 hg hr, (frozen_kept h.2.2.2.2.1 hg hr).trans h.2.2.2.2.2.1, cell_kept h.2.2.2.2.2.2 hg hr⟩
theorem heap_setCellO {W : World} {D : Nat} {o : Obj} (a : Addr) (v : Value) (h : W.heap[D]? = some o) (ho : o.isCells = false) : (W.setCell a v).heap[D]? = some o := (KeepsOthers.setCell _ _ _).same D _ h ho
end Ar
set_option maxRecDepth 100000 in
theorem eql_fnA (f : Fn) (u : World) (x y : Array Value) : Sem.run Try.prog (binOp BinOp.eql 72 (.func f x y) Value.nilFunc) u = .ok (.bool false) u := by rfl
attribute [local go_sem] eql_fnA

set_option maxRecDepth 100000 in
set_option maxHeartbeats 16000000 in
theorem told_ok {w : World} {m g base : Nat} {lv : Value} {l : List RM} {bm nn : Nat} {C : Int → Int → Bool} {ms : List Mg} (h : AirAt m w g base lv l bm nn C) (ta : TML w l ms) (sm : ∀ x ∈ ms, Sm x) (hl : ms.length ≤ 1024)
    (la : Option Addr) (cap br : Nat) (q : List RM) (hown : w.ownsRow br 34 14 (.slice la q.length cap) q.length (rowM q)) (tr : TML w q ms) (leave : Int) :
    Calls Try.prog 20 #[.pointer (some ⟨g, 0, none⟩), .slice la q.length cap, .int .i64 leave] w fun e w' => e = .returned (.bool true) ∧ Below w.heap.size w w' := by
  obtain ⟨len, hlen⟩ : ∃ len, RowKit.Hid (ms.length = len) := ⟨_, Lib.hid rfl⟩
  have hqn : q.length = len := by rw [tr.1, hlen.out]
  have hcl : ∀ i j, i < len → j < 14 → ∀ v, (cellsM (q.getD i rm0))[j]? = some v → ∃ b, la = some ⟨b, 0, none⟩ ∧ w.cell? ⟨b, i * 14 + j, none⟩ = some v := fun i j hi hj v hv => by
    obtain ⟨b, cap', e, _⟩ := hown.form (by omega)
    cases e
    refine ⟨b, rfl, ?_⟩
    rw [hown.cellAt (i * 14 + j) (by omega), rowM_at q i j (by omega) hj, hv]
  rw [hqn]
  have hl64 : len ≤ 1024 := by rw [← hlen.out]; exact hl
  replace hcl := Lib.hid hcl
  replace tr := Lib.hid tr
  replace hqn := Lib.hid hqn
  clear hown
  refine (callsIn_wide (n := 6)).1 ?_
  refine callsIn_of_wp_marks Try.func20 rfl trivial ?_ rfl
  simp only [Try.ntmps20, List.size_toArray, List.length_cons, List.length_nil, Nat.reduceAdd, Nat.reduceSub, Array.replicate_succ, Array.replicate_zero, List.push_toArray, List.append_toArray, List.nil_append, List.cons_append]
  gi_wp2_with (refine ⟨trivial, ?_⟩; gi_at_call 36; refine (callsIn_wide.2 (aall_c _ _)).mono ?_; rintro e w' ⟨rfl, rfl⟩)
  have hB0 : Below w.heap.size w (((((w.alloc (.cells #[.slice la len cap] 49)).alloc (.cells #[.int .i64 leave] 3)).alloc (.cells #[.bool false] 4)).alloc (.cells #[.int .i64 0] 3)).alloc (.cells #[.pointer (some ⟨g, 0, none⟩)] 24)) := (((((Below.refl _ w).alloc (Nat.le_refl _) _).alloc (by simp) _).alloc (by simp; omega) _).alloc (by simp; omega) _).alloc (by simp; omega) _
  have hI0 : CeT w g la len cap leave 0 (((((w.alloc (.cells #[.slice la len cap] 49)).alloc (.cells #[.int .i64 leave] 3)).alloc (.cells #[.bool false] 4)).alloc (.cells #[.int .i64 0] 3)).alloc (.cells #[.pointer (some ⟨g, 0, none⟩)] 24)) := ⟨by go_simp, by go_simp, by go_simp, by go_simp, by go_simp, by go_simp, by go_simp⟩
  have hS0 : (((((w.alloc (.cells #[.slice la len cap] 49)).alloc (.cells #[.int .i64 leave] 3)).alloc (.cells #[.bool false] 4)).alloc (.cells #[.int .i64 0] 3)).alloc (.cells #[.pointer (some ⟨g, 0, none⟩)] 24)).cell? ⟨w.heap.size + 1 + 1 + 1 + 1, 0, none⟩ = some (.pointer (some ⟨g, 0, none⟩)) := by go_simp
  have hZ0 : (((((w.alloc (.cells #[.slice la len cap] 49)).alloc (.cells #[.int .i64 leave] 3)).alloc (.cells #[.bool false] 4)).alloc (.cells #[.int .i64 0] 3)).alloc (.cells #[.pointer (some ⟨g, 0, none⟩)] 24)).heap.size = w.heap.size + 1 + 1 + 1 + 1 + 1 := by simp
  generalize (((((w.alloc (.cells #[.slice la len cap] 49)).alloc (.cells #[.int .i64 leave] 3)).alloc (.cells #[.bool false] 4)).alloc (.cells #[.int .i64 0] 3)).alloc (.cells #[.pointer (some ⟨g, 0, none⟩)] 24)) = W0 at hB0 hI0 hS0 hZ0 ⊢
  refine Rx.range_told (by omega) (gf := 46) (lb := #[.pointer (some ⟨w.heap.size + 1 + 1 + 1 + 1, 0, none⟩)]) rfl (enters_of Try.func46 (by kernel_rfl) rfl)
    (aall_seq (6 - 1) (by omega) h ta sm hl hB0 (w.heap.size + 1 + 1 + 1 + 1) (by omega) hS0) KpA.t (KpA.b (by omega) (by omega)) (Below.refl _ _) (fun _ => rfl)
    (fun pre W => CeT w g la len cap leave pre.length W ∧ Below w.heap.size w W) (fun pre W => ((pre.length : Int) = leave ∧ CeT w g la len cap leave pre.length W) ∧ Below w.heap.size w W) (.exit 0) (.inr ⟨0, rfl⟩)
    (OwnFrom.and ((CeT.own w g la len cap leave (fun pre : List (Nat × Value) => pre.length)).from _) (ownFrom_below (Nat.le_refl _) (by omega)))
    (OwnFrom.and (Own.from (fun s A B row h hg hr => ⟨h.1, CeT.own w g la len cap leave (fun pre : List (Nat × Value) => pre.length) s A B row h.2 hg hr⟩) _) (ownFrom_below (Nat.le_refl _) (by omega)))
    ⟨hI0, hB0⟩ (AxT w g la len cap leave ms) (fun pre x a' => ?ax) ?assign ?body ?done ?stop
  case ax => exact fun s A B row hs hg hr => AxT.own pre x a' s A B row hs hg (fun r e => ⟨by have := (hr r e).1; omega, (hr r e).2⟩)
  case assign =>
    rintro l' pre ⟨y1, y2⟩ W K hI ⟨hy1, x, r, hp, hy2, hT⟩ hK
    simp only at hy1 hy2
    subst hy1
    subst hy2
    replace hK := Lib.hid hK
    have hba := (Below.refl W.heap.size W).alloc (Nat.le_refl _) (.cells #[.int .i8 x.f.k, .int .i64 x.f.fr, .int .i64 x.f.to, .int .i64 x.f.te, .int .i64 x.f.ix, .int .i64 x.f.la, .int .i64 x.f.co, .bool x.f.ok, .slice r.ea r.en r.ec, .int .i64 x.f.si, .int .i64 x.f.st, .int .u8 x.f.su, .slice r.sa r.sn r.sc, .slice r.da r.dn r.dc] 34)
    have hht := HT.new W #[.int .i8 x.f.k, .int .i64 x.f.fr, .int .i64 x.f.to, .int .i64 x.f.te, .int .i64 x.f.ix, .int .i64 x.f.la, .int .i64 x.f.co, .bool x.f.ok, .slice r.ea r.en r.ec, .int .i64 x.f.si, .int .i64 x.f.st, .int .u8 x.f.su, .slice r.sa r.sn r.sc, .slice r.da r.dn r.dc] 34
    replace hba := Lib.hid hba
    replace hht := Lib.hid hht
    replace hp := Lib.hid hp
    replace hT := Lib.hid hT
    replace hI := Lib.hid hI
    simp only [encA]
    gi_wp2
    exact hK.out _ _ (keepsB hba.out) ⟨hba.out.mono hI.out.2.size, hba.out.cell (p := ⟨w.heap.size + 1 + 1 + 1 + 1, 0, none⟩) (World.block_lt_of_cell? _ _ hI.out.1.2.2.2.2.2.2)⟩ ⟨hI.out.1.bel hba.out, hI.out.2.trans (hba.out.mono hI.out.2.size)⟩ ⟨W.heap.size, x, r, hp.out, rfl, rfl, hT.out.bel hba.out, hht.out⟩
  case body =>
    rintro l' pre y a' W ⟨hI, hB⟩ ⟨xb, x, r, hp, rfl, rfl, hT, hHT⟩ hlen2
    obtain ⟨k, hk⟩ : ∃ k, pre.length = k := ⟨_, rfl⟩
    have hkH := Lib.hid hk
    rw [hk] at hI hp hlen2 ⊢
    rw [hlen.out] at hlen2
    obtain ⟨hkl, hTr⟩ := tr.out.get hp
    have hkl2 : k < len := hlen2
    generalize hr0 : q.getD k rm0 = r0 at hTr
    obtain ⟨rf, ea, en, ec, sa, sn, sc, da, dn, dc⟩ := r0
    obtain rfl : rf = x.f := hTr.f
    obtain ⟨b, rfl, _⟩ := hcl.out k 0 hkl2 (by omega) (.int .i8 x.f.k) (by rw [hr0]; rfl)
    have hcl : ∀ i j, i < len → j < 14 → ∀ v, (cellsM (q.getD i rm0))[j]? = some v → w.cell? ⟨b, i * 14 + j, none⟩ = some v := fun i j hi hj v hv => by
      obtain ⟨q', e, h1⟩ := hcl.out i j hi hj v hv
      cases e
      exact h1
    have s0 := cellB hB (hcl k 0 hkl2 (by omega) (.int .i8 x.f.k) (by rw [hr0]; rfl))
    have s1 := cellB hB (hcl k 1 hkl2 (by omega) (.int .i64 x.f.fr) (by rw [hr0]; rfl))
    have s2 := cellB hB (hcl k 2 hkl2 (by omega) (.int .i64 x.f.to) (by rw [hr0]; rfl))
    have s3 := cellB hB (hcl k 3 hkl2 (by omega) (.int .i64 x.f.te) (by rw [hr0]; rfl))
    have s4 := cellB hB (hcl k 4 hkl2 (by omega) (.int .i64 x.f.ix) (by rw [hr0]; rfl))
    have s5 := cellB hB (hcl k 5 hkl2 (by omega) (.int .i64 x.f.la) (by rw [hr0]; rfl))
    have s6 := cellB hB (hcl k 6 hkl2 (by omega) (.int .i64 x.f.co) (by rw [hr0]; rfl))
    have s7 := cellB hB (hcl k 7 hkl2 (by omega) (.bool x.f.ok) (by rw [hr0]; rfl))
    have s8 := cellB hB (hcl k 8 hkl2 (by omega) (.slice ea en ec) (by rw [hr0]; rfl))
    have s9 := cellB hB (hcl k 9 hkl2 (by omega) (.int .i64 x.f.si) (by rw [hr0]; rfl))
    have s10 := cellB hB (hcl k 10 hkl2 (by omega) (.int .i64 x.f.st) (by rw [hr0]; rfl))
    have s11 := cellB hB (hcl k 11 hkl2 (by omega) (.int .u8 x.f.su) (by rw [hr0]; rfl))
    have s12 := cellB hB (hcl k 12 hkl2 (by omega) (.slice sa sn sc) (by rw [hr0]; rfl))
    have s13 := cellB hB (hcl k 13 hkl2 (by omega) (.slice da dn dc) (by rw [hr0]; rfl))
    rw [Nat.add_zero] at s0
    have x0 := hHT.c 0 _ rfl
    have x1 := hHT.c 1 _ rfl
    have x2 := hHT.c 2 _ rfl
    have x3 := hHT.c 3 _ rfl
    have x4 := hHT.c 4 _ rfl
    have x5 := hHT.c 5 _ rfl
    have x6 := hHT.c 6 _ rfl
    have x7 := hHT.c 7 _ rfl
    have x8 := hHT.c 8 _ rfl
    have x9 := hHT.c 9 _ rfl
    have x10 := hHT.c 10 _ rfl
    have x11 := hHT.c 11 _ rfl
    have x12 := hHT.c 12 _ rfl
    have x13 := hHT.c 13 _ rfl
    have hIr := hT.is
    have hIq := hTr.is.bel hB
    have hsame := Lib.hid (fun u (hu : Below W.heap.size W u) => sameM_c x r ⟨x.f, ea, en, ec, sa, sn, sc, da, dn, dc⟩ u (hIr.bel hu) (hIq.bel hu))
    have hkz : (0 : Int) ≤ (k : Int) := by omega
    have hkl' : (k : Int) < (len : Int) := by omega
    have hk64 : (k : Int) < 1024 := by omega
    have hdl : decide (len ≤ k) = false := by simp; omega
    obtain ⟨i0, i1, i2, i3, i4, i5, i6⟩ := hI
    have hI : CeT w g (some ⟨b, 0, none⟩) len cap leave k W := ⟨i0, i1, i2, i3, i4, i5, i6⟩
    replace hI := Lib.hid hI
    replace hB := Lib.hid hB
    clear hk hp hT hTr hIr hIq hHT hr0 hcl hkl
    refine wpIn_block (wpIn_seq (wpIn_seq (wpIn_mono (Q := fun e a u => e = .normal ∧ RegT w g b len cap leave k xb x r a ∧ Below W.heap.size W u) ?reg ?rest)))
    case reg =>
      gi_region_with (refine ⟨trivial, ?_⟩; gi_at_call 29; refine (CallsIn.inRound l' (callsIn_wide.2 (hsame.out _ (Below.refl _ _).drew))).mono ?_; rintro e u ⟨rfl, hbu⟩)
      all_goals exact ⟨rfl, ⟨_, _, _, _, _, _, _, _, _, _, _, _, _, _, _, _, _, rfl⟩, bNext ((Below.refl W.heap.size W).drew) hbu (Nat.le_refl _)⟩
    case rest =>
      rintro e a u ⟨rfl, ⟨t18, t19, t20, t21, t22, t23, t24, t25, t26, t27, t28, t29, t30, t31, t32, t33, t34, rfl⟩, hWu⟩
      clear hsame
      have hIu := hI.out.bel hWu
      have hBu := hB.out.trans (hWu.mono hB.out.size)
      have hIu2 := hIu.up
      obtain ⟨j0, j1, j2, j3, j4, j5, j6⟩ := hIu
      have hkp2 : ∀ B, KeepsFrom B W (u.setCell ⟨w.heap.size + 1 + 1 + 1, 0, none⟩ (.int .i64 ((k : Int) + 1))) := fun B => (keepsB (B := B) hWu).trans ((KeepsOthers.setCell u ⟨w.heap.size + 1 + 1 + 1, 0, none⟩ (.int .i64 ((k : Int) + 1))).from _)
      have hKA : KpA w.heap.size (w.heap.size + 1 + 1 + 1 + 1) W (u.setCell ⟨w.heap.size + 1 + 1 + 1, 0, none⟩ (.int .i64 ((k : Int) + 1))) := ⟨(hWu.mono hB.out.size).setCell (p := ⟨w.heap.size + 1 + 1 + 1, 0, none⟩) (by simp only; omega) _, (World.cell?_setCell_other _ _ _ _ (by simp <;> omega)).trans (hWu.cell (p := ⟨w.heap.size + 1 + 1 + 1 + 1, 0, none⟩) (World.block_lt_of_cell? _ _ i6))⟩
      have hBu2 := hBu.setCell (p := ⟨w.heap.size + 1 + 1 + 1, 0, none⟩) (by simp only; omega) (.int .i64 ((k : Int) + 1))
      replace hIu2 := Lib.hid hIu2
      replace hKA := Lib.hid hKA
      replace hkp2 := Lib.hid hkp2
      replace hBu2 := Lib.hid hBu2
      clear hWu hBu j0 j6 s0 x0 s1 x1 s2 x2 s3 x3 s4 x4 s5 x5 s6 x6 s7 x7 s8 x8 s9 x9 s10 x10 s11 x11 s12 x12 s13 x13 i0 i1 i2 i3 i4 i5 i6
      by_cases hlv : (k : Int) + 1 = leave
      · subst hlv
        gi_wp2
        exact .inr ⟨.inr ⟨0, rfl, rfl⟩, hkp2.out _, ⟨by rw [List.length_append, hkH.out]; rfl, by rw [List.length_append, hkH.out]; exact hIu2.out⟩, hBu2.out⟩
      · gi_wp2
        exact .inl ⟨trivial, hkp2.out _, hKA.out, by rw [List.length_append, hkH.out]; exact hIu2.out, hBu2.out⟩
  case done =>
    rintro D xs W hD hxs ⟨hI, hB⟩ hK
    rw [hxs, hlen.out] at hI
    obtain ⟨j0, j1, j2, j3, j4, j5, j6⟩ := hI
    gi_wp2
    all_goals
      have hK' := heap_setCellO ⟨w.heap.size + 1 + 1, 0, none⟩ (.bool true) hK rfl
      have hr0 : (W.setCell ⟨w.heap.size + 1 + 1, 0, none⟩ (.bool true)).cell? ⟨w.heap.size + 1 + 1, 0, none⟩ = some (.bool true) := World.cell?_setCell_same _ _ _ j2
      have hB' := hB.setCell (p := ⟨w.heap.size + 1 + 1, 0, none⟩) (by simp only; omega) (.bool true)
      refine ⟨by simp, .inl ⟨_, _, rfl, run_takeDeferred hK', ?_⟩⟩
      have hc5 := cell_kept hr0 (grownBy_putObj' _ D (.deferred none)) (fun r e => by cases e; exact ⟨_, hK', rfl⟩)
      refine ⟨.bool true, ?_, rfl, hB'.trans (belowK_b (w := w) (Nat.le_refl _) _ D _ _ (by omega) hK' rfl rfl)⟩
      simp [results, Try.results20, go_sem, hc5]
  case stop =>
    rintro D pre W hD hpre ⟨⟨hlv, hI⟩, hB⟩ hK
    obtain ⟨j0, j1, j2, j3, j4, j5, j6⟩ := hI
    subst hlv
    gi_wp2
    all_goals
      have hK' := heap_setCellO ⟨w.heap.size + 1 + 1, 0, none⟩ (.bool true) hK rfl
      have hr0 : (W.setCell ⟨w.heap.size + 1 + 1, 0, none⟩ (.bool true)).cell? ⟨w.heap.size + 1 + 1, 0, none⟩ = some (.bool true) := World.cell?_setCell_same _ _ _ j2
      have hB' := hB.setCell (p := ⟨w.heap.size + 1 + 1, 0, none⟩) (by simp only; omega) (.bool true)
      refine ⟨by simp, .inl ⟨_, _, rfl, run_takeDeferred hK', ?_⟩⟩
      have hc5 := cell_kept hr0 (grownBy_putObj' _ D (.deferred none)) (fun r e => by cases e; exact ⟨_, hK', rfl⟩)
      refine ⟨.bool true, ?_, rfl, hB'.trans (belowK_b (w := w) (Nat.le_refl _) _ D _ _ (by omega) hK' rfl rfl)⟩
      simp [results, Try.results20, go_sem, hc5]
end Go.Proofs.Ytnokojobiaddmaa
