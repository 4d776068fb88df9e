/- Leases: the state of an agent that holds one lease at most; what is found and taken out of its row. -/
import Derived.Test.YtldknmcnmhdgfaaBase
namespace Go.Proofs.Ytldknmcnmhdgfaa
open Go.ChangeShapes Go.WideShapes Go.ChangeAt Go.RowKit
set_option linter.unusedVariables false
set_option linter.unusedSimpArgs false
open BigFrame Bs

namespace Ag
/-- A lease. -/
structure Ls where
  id : Int
  ten : Int
  left : Int
  til : Int
  size : Int
  told : Int
def lsC (x : Ls) : List Value := [.int .i64 x.id, .int .i64 x.ten, .int .i64 x.left, .int .i64 x.til, .int .i64 x.size, .int .i64 x.told]
/-- An agent but its row. -/
structure St where
  sh : Int
  ti : Int
  ep : Int
  nu : Int
  un : Bool
  k : Int
  cn : Int
  ct : Int
  cs : Int
  ce : Int
  cz : Int
  se : Int
  no : Int
def agC (A : St) (lv : Value) : List Value :=
  [.int .i64 A.sh, .int .i64 A.ti, .int .i64 A.ep, .int .i64 A.nu, .bool A.un,
   .int .i8 A.k, .int .i64 0, .int .i64 A.cn, .int .i64 A.ct, .int .i64 0, .int .i64 0, .int .i64 A.cs, .int .i64 A.ce, .int .i64 0, .int .i64 A.cz, .int .i64 0, .bool false, .slice none 0 0,
   .int .i64 A.se, lv, .int .i64 A.no]
/-- It holds no lease. -/
structure AgE (m : Nat → Prop) (w : World) (a : Nat) (A : St) (p : Option Addr) (c : Nat) : Prop where
  b : Blk w a (agC A (.slice p 0 c))
  ma : ¬ m a
  mw : ∀ b, m b → b < w.heap.size
  z : p = none → c = 0
/-- It holds one. -/
structure AgL (m : Nat → Prop) (w : World) (a : Nat) (A : St) (q g c : Nat) (x : Ls) : Prop where
  b : Blk w a (agC A (.slice (some ⟨q, 0, none⟩) 1 c))
  r : Blk w q [.pointer (some ⟨g, 0, none⟩)]
  x : Blk w g (lsC x)
  ma : ¬ m a
  mq : ¬ m q
  mg : ¬ m g
  mw : ∀ b, m b → b < w.heap.size
  aq : a ≠ q
  ag : a ≠ g
  qg : q ≠ g
  c1 : 1 ≤ c
  c2 : (c : Int) ≤ 9223372036854775807
theorem mwS {m : Nat → Prop} {w : World} (h : ∀ b, m b → b < w.heap.size) {p : Addr} {v : Value} : ∀ b, m b → b < (w.setCell p v).heap.size := fun b hb => by simpa using h b hb
theorem mwB {m : Nat → Prop} {w w' : World} (h : ∀ b, m b → b < w.heap.size) (k : w.heap.size ≤ w'.heap.size) : ∀ b, m b → b < w'.heap.size := fun b hb => Nat.lt_of_lt_of_le (h b hb) k
/-- So much is kept: all blocks of a set. -/
structure Kp (m : Nat → Prop) (w w' : World) : Prop where
  b : Below 0 w w'
  k : ∀ i, m i → i < w.heap.size → w'.heap[i]? = w.heap[i]?
theorem Kp.size {m : Nat → Prop} {w w' : World} (h : Kp m w w') : w.heap.size ≤ w'.heap.size := h.b.size
theorem Kp.refl (m : Nat → Prop) (w : World) : Kp m w w := ⟨Below.refl _ _, fun _ _ _ => rfl⟩
theorem Kp.trans {m : Nat → Prop} {u v w : World} (h : Kp m u v) (k : Kp m v w) : Kp m u w :=
  ⟨h.b.trans k.b, fun i h1 h2 => (k.k i h1 (Nat.lt_of_lt_of_le h2 h.b.size)).trans (h.k i h1 h2)⟩
theorem Kp.of {m : Nat → Prop} {w w' : World} (h : Below w.heap.size w w') : Kp m w w' := ⟨h.mono (Nat.zero_le _), fun i _ h2 => h.block i h2⟩
theorem Kp.setCell {m : Nat → Prop} {u w : World} (h : Kp m u w) {p : Addr} (hp : ¬ m p.block) (v : Value) : Kp m u (w.setCell p v) :=
  ⟨h.b.setCell (Nat.zero_le _) v, fun i h1 h2 => (Below.heap_setCell w p v i (fun e => hp (e ▸ h1))).trans (h.k i h1 h2)⟩
theorem Kp.drew {m : Nat → Prop} {u w : World} (h : Kp m u w) : Kp m u w.drew := ⟨h.b.drew, h.k⟩
theorem Kp.sub {m m2 : Nat → Prop} {u w : World} (h : Kp m u w) (hs : ∀ i, m2 i → m i) : Kp m2 u w := ⟨h.b, fun i h1 h2 => h.k i (hs i h1) h2⟩
theorem Kp.blk {m : Nat → Prop} {w w' : World} (h : Kp m w w') {b : Nat} {l : List Value} (hb : Blk w b l) (hm : m b) : Blk w' b l := by
  have e := h.k b hm hb.l
  exact ⟨fun i x hx => (World.cell?_of_block e).trans (hb.c i x hx), fun o => (World.frozen?_of_block e).trans (hb.f o), Nat.lt_of_lt_of_le hb.l h.b.size⟩
theorem AgE.other {m : Nat → Prop} {w : World} {a : Nat} {A : St} {p : Option Addr} {c : Nat} (h : AgE m w a A p c) {b o : Nat} {v : Value} (h1 : a ≠ b) : AgE m (w.setCell ⟨b, o, none⟩ v) a A p c := ⟨h.b.other h1 v, h.ma, mwS h.mw, h.z⟩
theorem AgE.bel {m : Nat → Prop} {w w' : World} {a : Nat} {A : St} {p : Option Addr} {c : Nat} (h : AgE m w a A p c) (k : Below w.heap.size w w') : AgE m w' a A p c := ⟨h.b.bel k, h.ma, mwB h.mw k.size, h.z⟩
theorem AgL.bel {m : Nat → Prop} {w w' : World} {a : Nat} {A : St} {q g c : Nat} {x : Ls} (h : AgL m w a A q g c x) (k : Below w.heap.size w w') : AgL m w' a A q g c x :=
  ⟨h.b.bel k, h.r.bel k, h.x.bel k, h.ma, h.mq, h.mg, mwB h.mw k.size, h.aq, h.ag, h.qg, h.c1, h.c2⟩
theorem AgL.other {m : Nat → Prop} {w : World} {a : Nat} {A : St} {q g c : Nat} {x : Ls} (h : AgL m w a A q g c x) {b o : Nat} {v : Value} (h1 : a ≠ b) (h2 : q ≠ b) (h3 : g ≠ b) : AgL m (w.setCell ⟨b, o, none⟩ v) a A q g c x :=
  ⟨h.b.other h1 v, h.r.other h2 v, h.x.other h3 v, h.ma, h.mq, h.mg, mwS h.mw, h.aq, h.ag, h.qg, h.c1, h.c2⟩
/-- A cell of the agent is written. -/
theorem AgL.set {m : Nat → Prop} {w : World} {a : Nat} {A A' : St} {q g c : Nat} {x : Ls} (h : AgL m w a A q g c x) {o : Nat} {v : Value} (ho : o < 21) (e : (agC A (.slice (some ⟨q, 0, none⟩) 1 c)).set o v = agC A' (.slice (some ⟨q, 0, none⟩) 1 c)) : AgL m (w.setCell ⟨a, o, none⟩ v) a A' q g c x :=
  ⟨e ▸ h.b.set (show o < (agC A (.slice (some ⟨q, 0, none⟩) 1 c)).length from ho) v, h.r.other (Ne.symm h.aq) v, h.x.other (Ne.symm h.ag) v, h.ma, h.mq, h.mg, mwS h.mw, h.aq, h.ag, h.qg, h.c1, h.c2⟩
theorem AgE.set {m : Nat → Prop} {w : World} {a : Nat} {A A' : St} {p : Option Addr} {c : Nat} (h : AgE m w a A p c) {o : Nat} {v : Value} (ho : o < 21) (e : (agC A (.slice p 0 c)).set o v = agC A' (.slice p 0 c)) : AgE m (w.setCell ⟨a, o, none⟩ v) a A' p c :=
  ⟨e ▸ h.b.set (show o < (agC A (.slice p 0 c)).length from ho) v, h.ma, mwS h.mw, h.z⟩
/-- A cell of the lease is written. -/
theorem AgL.setX {m : Nat → Prop} {w : World} {a : Nat} {A : St} {q g c : Nat} {x x' : Ls} (h : AgL m w a A q g c x) {o : Nat} {v : Value} (ho : o < 6) (e : (lsC x).set o v = lsC x') : AgL m (w.setCell ⟨g, o, none⟩ v) a A q g c x' :=
  ⟨h.b.other h.ag v, h.r.other h.qg v, e ▸ h.x.set (show o < (lsC x).length from ho) v, h.ma, h.mq, h.mg, mwS h.mw, h.aq, h.ag, h.qg, h.c1, h.c2⟩
/-- The row is cut to nothing. -/
theorem AgL.wipe {m : Nat → Prop} {w : World} {a : Nat} {A : St} {q g c : Nat} {x : Ls} (h : AgL m w a A q g c x) (v : Value) : AgE m ((w.setCell ⟨q, 0, none⟩ v).setCell ⟨a, 19, none⟩ (.slice (some ⟨q, 0, none⟩) 0 c)) a A (some ⟨q, 0, none⟩) c :=
  ⟨(h.b.other h.aq v).set (i := 19) (show 19 < 21 by omega) _, h.ma, mwS (mwS h.mw), fun h => nomatch h⟩

theorem run_clear_any (w : World) (t e ty : TypeId) (z : Value) (zc : List Value) (ht : Try.prog.underlying t = some (.slice e)) (hv : ∀ w, (zeroValue e).run Try.prog w = .ok z w) (hz : z.cells = zc.toArray) (h1 : ∀ u ∈ zc, u.oneCell' = true) (b o n c : Nat) (hn : 0 < n)
    (hc : ∀ j, j < n * zc.length → (w.cell? ⟨b, o + j, none⟩).isSome = true) (hf : ∀ j, j < n * zc.length → w.frozen? ⟨b, o + j, none⟩ = false) :
    ∃ vs : List Value, vs.length = n * zc.length ∧ (Builtin.clear_ #[t] ty #[.slice (some ⟨b, o, none⟩) n c]).run Try.prog w = .ok (.tuple #[]) (w.setCells b o vs) := by
  refine ⟨(Builtin.zeroCells z.cells n).toList, ?_, ?_⟩
  · rw [hz]; simp [Builtin.zeroCells]
  · have hl : (Builtin.zeroCells z.cells n).toList.length = n * zc.length := by rw [hz]; simp [Builtin.zeroCells]
    have hst := run_storeCells_cells (P := Try.prog) b o (Builtin.zeroCells z.cells n).toList 0 w (by rw [hl]; simpa using hc) (by rw [hl]; simpa using hf) (by
      intro v hv'
      have hm : v ∈ zc := by
        rw [hz] at hv'
        unfold Builtin.zeroCells at hv'
        rw [Array.toList_map] at hv'
        obtain ⟨i, hi, hiv⟩ := List.mem_map.1 hv'
        have hi2 : i < n * zc.length := by simpa using hi
        have hpos : 0 < zc.length := by
          rcases Nat.eq_zero_or_pos zc.length with q | q
          · rw [q] at hi2; omega
          · exact q
        have hlt : i % zc.length < zc.length := Nat.mod_lt _ hpos
        rw [← hiv]
        simp [hlt]
      exact h1 v hm)
    simp only [Nat.add_zero] at hst
    obtain ⟨m, rfl⟩ : ∃ m, n = m + 1 := ⟨n - 1, by omega⟩
    simp [Builtin.clear_, run_underlying ht, hv, hst]
theorem run_clear_lease (w : World) (q c : Nat) {l : List Value} (h : Blk w q l) (hl : 0 < l.length) : ∃ v : Value, ∀ ty, (Builtin.clear_ #[55] ty #[.slice (some ⟨q, 0, none⟩) 1 c]).run Try.prog w = .ok (.tuple #[]) (w.setCell ⟨q, 0, none⟩ v) := by
  have H := fun ty => run_clear_any w 55 60 ty (.pointer none) [.pointer none] Try.underlying55 (fun _ => rfl) rfl (by intro u hu; simp at hu; subst hu; rfl) q 0 1 c (by omega) (fun j hj => by
    have : j = 0 := by simpa using hj
    subst this
    rw [h.c 0 _ (List.getElem?_eq_getElem hl)]; rfl) (fun j _ => h.f _)
  obtain ⟨vs, hvs, hr⟩ := H 0
  obtain ⟨v, rfl⟩ : ∃ v, vs = [v] := by
    match vs, hvs with
    | [v], _ => exact ⟨v, rfl⟩
  exact ⟨v, fun ty => hr⟩
end Ag
open Ag

set_option maxRecDepth 100000 in
set_option maxHeartbeats 4000000 in
theorem idx_nil (w : World) (p : Option Addr) (c : Nat) (fv : Value) :
    Calls Try.prog 28 #[.slice p 0 c, fv] w fun e w' => e = .returned (.int .i64 (-1)) ∧ w' = w := by
  go_enter Try.func28, Try.ntmps28
  go_wp2_with fail
  go_loop [8] (fun s8 => s8 = .int .i64 0) (fun _ => 0)
  case atStart => rfl
  case round =>
    obtain rfl := hrel
    go_wp2_with fail
    go_ret
    exact ⟨rfl, rfl⟩

set_option maxRecDepth 100000 in
set_option maxHeartbeats 4000000 in
theorem del_nil (w : World) (p : Option Addr) (c : Nat) (fv : Value) :
    Calls Try.prog 24 #[.slice p 0 c, fv] w fun e w' => e = .returned (.slice p 0 c) ∧ w' = w := by
  have hi := Lib.hid (idx_nil w p c fv)
  go_enter Try.func24, Try.ntmps24
  go_wp2_with fail
  refine hi.out.mono ?_
  rintro e w' ⟨rfl, rfl⟩
  go_wp2_with fail
  go_ret
  exact ⟨rfl, rfl⟩

set_option maxRecDepth 100000 in
set_option maxHeartbeats 4000000 in
theorem dead_c {m : Nat → Prop} {w : World} {a : Nat} {A : St} {q g c : Nat} {x : Ls} (h : AgL m w a A q g c x) :
    Calls Try.prog 27 #[.pointer (some ⟨a, 0, none⟩), .pointer (some ⟨g, 0, none⟩)] w fun e w' => e = .returned (.bool (decide (x.til ≤ A.no))) ∧ Below w.heap.size w w' := by
  have c1 := h.b.c 20 _ rfl
  have c2 := h.x.c 3 _ rfl
  clear h
  go_enter Try.func27, Try.ntmps27
  go_upto_region 1 with fail
  go_quiet (fail)
  go_wp2_with fail
  go_ret
  exact ⟨by go_simp, bDrew (Below.refl _ _) _⟩
end Go.Proofs.Ytldknmcnmhdgfaa
