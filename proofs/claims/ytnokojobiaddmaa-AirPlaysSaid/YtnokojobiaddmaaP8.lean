/- The air: New, Len, Send. -/
import Derived.Test.YtnokojobiaddmaaP7
namespace Go.Proofs.Ytnokojobiaddmaa
open Go.ChangeShapes Go.WideShapes Go.ChangeAt Go.RowKit Go.Maps
set_option linter.unusedVariables false
set_option linter.unusedSimpArgs false
open BigFrame Bs Am Ar

namespace Ar
def NewP (w : World) (e : Ending) (w' : World) : Prop := ∃ g bm base, e = .returned (.pointer (some ⟨g, 0, none⟩)) ∧ AirAt w.heap.size w' g base (.slice none 0 0) [] bm 0 (fun _ _ => false) ∧ Below w.heap.size w w'
end Ar

set_option maxRecDepth 100000 in
theorem air_new (w : World) : Calls Try.prog 8 #[] w (NewP w) := by
  have hmm := @run_makeMap Try.prog
  go_enter Try.func8, Try.ntmps8
  go_wp2_with fail
  have h0 : (w.alloc (.map #[] 0)).heap.size = w.heap.size + 1 := by simp
  have hb : Below w.heap.size w ((w.alloc (.map #[] 0)).alloc (.cells #[.slice none 0 0, .map (some w.heap.size)] 59)) := ((Below.refl _ _).alloc (Nat.le_refl _) _).alloc (by simp) _
  have hg : ((w.alloc (.map #[] 0)).alloc (.cells #[.slice none 0 0, .map (some w.heap.size)] 59)).heap[w.heap.size + 1]? = some (.cells #[.slice none 0 0, .map (some w.heap.size)] 59 (0, 0)) := by
    have := heap_alloc_new (w.alloc (.map #[] 0)) (.cells #[.slice none 0 0, .map (some w.heap.size)] 59)
    rw [h0] at this
    exact this
  go_ret
  refine ⟨w.heap.size + 1, w.heap.size, w.heap.size + 2, rfl, ⟨hg, World.ownsRow_nil _ _ _ _, ⟨.map [], (World.ownsMap_made w Try.prog _ _).alloc _, fun f t _ _ => rfl⟩, by omega, by omega, by omega, by omega, by omega, by simp⟩, hb⟩

theorem air_len {m : Nat} {w : World} {g base : Nat} {lv : Value} {l : List RM} {bm n : Nat} {C : Int → Int → Bool} (h : AirAt m w g base lv l bm n C) :
    Calls Try.prog 12 #[.pointer (some ⟨g, 0, none⟩)] w fun e w' => e = .returned (.int .i64 (l.length : Nat)) ∧ w = w' := by
  have hown := h.own
  have c0 := h.c0
  clear h
  rcases hown.2 with ⟨rfl, hn⟩ | ⟨q, cap, cur, rfl, _, _, _, _, _, _⟩
  · rw [hn]
    replace hn := Lib.hid hn
    clear hown
    go_enter Try.func12, Try.ntmps12
    go_wp2_with fail
    go_ret
    exact ⟨rfl, rfl⟩
  · clear hown
    go_enter Try.func12, Try.ntmps12
    go_wp2_with fail
    go_ret
    exact ⟨rfl, rfl⟩

end Go.Proofs.Ytnokojobiaddmaa
