/- Two new blocks of one region, told apart from how they were made: plain lemmas on worlds. -/
import Derived.Below
import Derived.Laws.Rows
import Derived.Laws.Tables
import Derived.Lib.Hide
namespace Go.Proofs.Ythahlfabcjnkhaa
open Go.RowKit
set_option linter.unusedVariables false

theorem Below.setRow {B : Nat} {a w : World} (h : Below B a w) {g : Nat} (hg : B ≤ g) (cs : Array Value) : Below B a (w.setRow g cs) :=
  ⟨by simpa [World.setRow] using h.os, by simpa [World.setRow] using h.tape, by simpa [World.setRow] using h.output, by simpa using h.size, fun k hk => (setRow_other w g k cs (by omega)).trans (h.block k hk)⟩

/-- Block k, if it was made, is new and holds x. -/
def Holds (W u : World) (k : Nat) (x : Option Obj) : Prop := ∀ o, x = some o → W.heap.size ≤ k ∧ u.heap[k]? = some o
structure St (W u : World) (kh km : Nat) (xh xm : Option Obj) : Prop where
  b : Below W.heap.size W u
  h : Holds W u kh xh
  m : Holds W u km xm
  ne : ∀ o o', xh = some o → xm = some o' → kh ≠ km
theorem lt_of_heap {u : World} {k : Nat} {o : Obj} (h : u.heap[k]? = some o) : k < u.heap.size := (Array.getElem?_eq_some_iff.1 h).1
theorem Holds.alloc {W u : World} {k : Nat} {x : Option Obj} (h : Holds W u k x) (o : Obj) : Holds W (u.alloc o) k x := fun o' e => ⟨(h o' e).1, (heap_alloc_old u o k (lt_of_heap (h o' e).2)).trans (h o' e).2⟩
theorem Holds.call {W u u' : World} {k : Nat} {x : Option Obj} (h : Holds W u k x) (hb : Below u.heap.size u u') : Holds W u' k x := fun o' e => ⟨(h o' e).1, (hb.block k (lt_of_heap (h o' e).2)).trans (h o' e).2⟩
theorem St.start {W : World} (kh km : Nat) : St W W.drew kh km none none := ⟨(Below.refl W.heap.size W).drew, (fun _ e => nomatch e), (fun _ e => nomatch e), (fun _ _ e _ => nomatch e)⟩
theorem St.size {W u : World} {kh km : Nat} {xh xm : Option Obj} (s : St W u kh km xh xm) : W.heap.size ≤ u.heap.size := s.b.size
theorem St.call {W u u' : World} {kh km : Nat} {xh xm : Option Obj} (s : St W u kh km xh xm) (hb : Below u.heap.size u u') : St W u' kh km xh xm :=
  ⟨s.b.trans (hb.mono s.size), s.h.call hb, s.m.call hb, s.ne⟩
theorem St.allocH {W u : World} {kh km : Nat} {xm : Option Obj} (s : St W u kh km none xm) (o : Obj) : St W (u.alloc o) u.heap.size km (some o) xm :=
  ⟨s.b.alloc s.size o, fun o' e => by cases e; exact ⟨s.size, heap_alloc_new u o⟩, s.m.alloc o, fun o1 o2 _ e2 e => by have := lt_of_heap (s.m o2 e2).2; omega⟩
theorem St.allocM {W u : World} {kh km : Nat} {xh : Option Obj} (s : St W u kh km xh none) (o : Obj) : St W (u.alloc o) kh u.heap.size xh (some o) :=
  ⟨s.b.alloc s.size o, s.h.alloc o, fun o' e => by cases e; exact ⟨s.size, heap_alloc_new u o⟩, fun o1 o2 e1 _ e => by have := lt_of_heap (s.h o1 e1).2; omega⟩
theorem St.storeH {W u : World} {kh km : Nat} {old : Array Value} {t : TypeId} {xm : Option Obj} (s : St W u kh km (some (.cells old t (0, 0))) xm) (cs : Array Value) :
    St W (u.setRow kh cs) kh km (some (.cells cs t (0, 0))) xm :=
  ⟨Below.setRow s.b (s.h _ rfl).1 cs, fun o' e => Option.some.inj e ▸ ⟨(s.h _ rfl).1, setRow_heap u kh old cs t (0, 0) (s.h _ rfl).2⟩, fun o' e => ⟨(s.m o' e).1, (setRow_other u kh km cs (fun h => s.ne _ o' rfl e h.symm)).trans (s.m o' e).2⟩, fun o1 o2 _ e2 => s.ne _ o2 rfl e2⟩
theorem St.storeM {W u : World} {kh km : Nat} {old : Array Value} {t : TypeId} {xh : Option Obj} (s : St W u kh km xh (some (.cells old t (0, 0)))) (cs : Array Value) :
    St W (u.setRow km cs) kh km xh (some (.cells cs t (0, 0))) :=
  ⟨Below.setRow s.b (s.m _ rfl).1 cs, fun o' e => ⟨(s.h o' e).1, (setRow_other u km kh cs (fun h => s.ne o' _ e rfl h)).trans (s.h o' e).2⟩, fun o' e => Option.some.inj e ▸ ⟨(s.m _ rfl).1, setRow_heap u km old cs t (0, 0) (s.m _ rfl).2⟩, fun o1 o2 e1 _ => s.ne o1 _ e1 rfl⟩
end Go.Proofs.Ythahlfabcjnkhaa
