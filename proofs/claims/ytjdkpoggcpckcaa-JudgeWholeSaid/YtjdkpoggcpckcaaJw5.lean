/- The record judged as a whole: how its arguments are opened; the document's answer through its other name. -/
import Derived.Test.YtjdkpoggcpckcaaJw4
import Derived.Test.YtjdkpoggcpckcaaJOpen
import Derived.SizedLaws
namespace Go.Proofs.Ytjdkpoggcpckcaa
open Go.ChangeShapes Go.WideShapes Go.ChangeAt Go.RowKit Go.Deep
set_option linter.unusedVariables false
set_option linter.unusedSimpArgs false
open Pk BigFrame By Jw
open Bs (cellB IntRows)

structure XT_LLuint8 where
  a : Option Addr
  n : Nat
  cap : Nat
  A : Nat → Option Addr
  L : Nat → Nat
  C : Nat → Nat
  D : Nat → List Nat
def Is_LLuint8 (w : World) (v : Value) (x : XT_LLuint8) : Prop := v = .slice x.a x.n x.cap ∧ x.n ≤ x.cap ∧ x.cap ≤ 9223372036854775807 ∧ BsAt w x.a x.n x.A x.L x.C x.D
abbrev XT_LFlow := XT_Rows
def Is_LFlow (w : World) (v : Value) (x : XT_LFlow) : Prop := Is_RowsK 3 w v x
theorem by_u8 {n : Int} (h : (Lit.int .u8 n).wf = true) : 0 ≤ n ∧ n ≤ 255 := by
  simp [Lit.wf, IntKind.min, IntKind.max, IntKind.signed, IntKind.bits] at h
  omega
section
variable {H : Type} {enc : TypeId × Value → H} {w : World}
set_option maxRecDepth 100000 in
theorem open_LFlow {r : Reach} {b0 : Nat} {v : Value} {d : DataW H} {p : List MemPlace} (hv : Value.okWide Try.prog w r b0 23 v) (h : DataW.Trod enc Try.prog w 0 (fun _ => true) true 23 v d p) : ∃ x, Is_LFlow w v x := by
  obtain ⟨a, b, off, len, cap, X, h1, h2, h3, h4, h5⟩ := open_intRows (T := 3) (k := 3) Try.underlying23 Try.underlying67 (by kernel_rfl) (by kernel_rfl) (by rfl) (by omega) (by kernel_rfl) Try.underlying3 hv h
  exact ⟨⟨a, b, off, len, cap, X⟩, h1, h2, h3, h4, h5⟩
set_option maxRecDepth 100000 in
theorem by_bytes {n : Nat} {u : Value} {z : DataW H × List MemPlace} (h : DataW.trod enc Try.prog w 0 (fun _ => true) true n 26 [u] = some z) :
    ∃ a l c d, u = .slice a l c ∧ Byt w a l c d := by
  have k1 : Try.prog.cellsOf 5 = 1 := by kernel_rfl
  obtain ⟨a, len, cap, rfl, hl, hm, hrow⟩ := open_rowsN Try.underlying26 h (by rw [k1]; omega)
  rw [k1] at hrow
  unfold maxLen at hm
  by_cases hp : 0 < len
  · obtain ⟨b, off, V, n, rfl, hb, hV⟩ := hrow hp
    refine ⟨_, len, cap, (List.range len).map (fun i => (intOf ((V i).getD 0 undef)).toNat), rfl, by simp, hl, hm, fun _ => ⟨b, off, rfl, hb, fun i x hx => ?_⟩⟩
    have hi : i < len := by have := (List.getElem?_eq_some_iff.1 hx).1; simpa using this
    simp [hi] at hx
    subst hx
    obtain ⟨q1, q2, z, q3⟩ := hV i (by omega)
    obtain ⟨x, hx⟩ : ∃ x, V i = [x] := List.length_eq_one_iff.1 q1
    rw [hx] at q2 q3
    obtain ⟨e4, f4⟩ := trod_int' Try.underlying5 q3
    have hb4 := by_u8 f4
    have hc := q2 0 x rfl
    have hg' : (intOf ((V i)[0]?.getD undef)).toNat = (intOf x).toNat := by rw [hx]; rfl
    rw [hg']
    refine ⟨?_, by omega⟩
    rw [e4] at hc
    rw [show (((intOf x).toNat : Nat) : Int) = intOf x by omega]
    simpa using hc
  · obtain rfl : len = 0 := by omega
    exact ⟨a, 0, cap, [], rfl, Byt.nil _ _ _ hm⟩
set_option maxRecDepth 100000 in
theorem open_LLuint8 {r : Reach} {b0 : Nat} {v : Value} {d : DataW H} {p : List MemPlace} (hv : Value.okWide Try.prog w r b0 22 v) (h : DataW.Trod enc Try.prog w 0 (fun _ => true) true 22 v d p) : ∃ x, Is_LLuint8 w v x := by
  obtain ⟨a0, len0, cap0, rfl⟩ := okWide_slice Try.underlying22 hv
  obtain ⟨fuel, hf⟩ := h
  have k6 : Try.prog.cellsOf 26 = 1 := by kernel_rfl
  obtain ⟨a, len, cap, e, hl, hm, hrow⟩ := open_rowsN (u := .slice a0 len0 cap0) Try.underlying22 hf (by rw [k6]; omega)
  cases e
  rw [k6] at hrow
  unfold maxLen at hm
  by_cases hp : 0 < len0
  · obtain ⟨b, off, V, n, rfl, hb, hV⟩ := hrow hp
    have hE : ∀ i, ∃ x : Option Addr × Nat × Nat × List Nat, i < cap0 → Byt w x.1 x.2.1 x.2.2.1 x.2.2.2 ∧ V i = [.slice x.1 x.2.1 x.2.2.1] := fun i => by
      by_cases hi : i < cap0
      · obtain ⟨q1, _, z, q3⟩ := hV i hi
        obtain ⟨x, hx⟩ : ∃ x, V i = [x] := List.length_eq_one_iff.1 q1
        rw [hx] at q3
        obtain ⟨a1, l1, c1, d1, rfl, hB⟩ := by_bytes q3
        exact ⟨(a1, l1, c1, d1), fun _ => ⟨hB, hx⟩⟩
      · exact ⟨(none, 0, 0, []), fun h => absurd h hi⟩
    obtain ⟨f, hf'⟩ := Classical.axiomOfChoice hE
    refine ⟨⟨_, len0, cap0, fun i => (f i).1, fun i => (f i).2.1, fun i => (f i).2.2.1, fun i => (f i).2.2.2⟩, rfl, hl, hm, ⟨fun _ => ⟨b, off, rfl, hb, fun i hi => ?_⟩, fun i hi => (hf' i (by simp only at hi; omega)).1⟩⟩
    simp only at hi
    obtain ⟨_, q2, _⟩ := hV i (by omega)
    rw [(hf' i (by omega)).2] at q2
    have := q2 0 _ rfl
    simpa using this
  · exact ⟨⟨a0, len0, cap0, fun _ => none, fun _ => 0, fun _ => 0, fun _ => []⟩, rfl, hl, hm, ⟨fun h => absurd h hp, fun i hi => absurd hi (by simp only at *; omega)⟩⟩
theorem wt_all {P : Program} {e : TypeId} : ∀ {ds : List (DataW H)} {d : DataW H}, d ∈ ds → ∀ n ∈ d.weights P e, n ∈ DataW.weightsAll P e ds
  | d0 :: ds, d, hd, n, hn => by
    simp only [DataW.weightsAll, List.mem_append]
    rcases List.mem_cons.1 hd with rfl | hd
    · exact .inl hn
    · exact .inr (wt_all hd n hn)
  | [], _, hd, _, _ => by simp at hd
set_option maxRecDepth 100000 in
theorem wt_bytes {n : Nat} {a : Option Addr} {l c : Nat} {z : DataW H × List MemPlace} (h : DataW.trod enc Try.prog w 0 (fun _ => true) true n 26 [.slice a l c] = some z) (hw : ∀ k ∈ z.1.weights Try.prog 26, k ≤ reachBytes) : l ≤ reachBytes := by
  have k1 : Try.prog.bytesOf 5 = 1 := by kernel_rfl
  rcases open_slice Try.underlying26 h with ⟨hcs, _⟩ | ⟨x, l', c', m, n, D, Pl, hcs, _, hl, hm, hmm, hz, hi⟩
  · simp at hcs
    omega
  · simp at hcs
    obtain ⟨_, rfl, rfl⟩ := hcs
    subst hz
    have := hw ((l + (m - l)) * 1) (by simp [DataW.weights, Try.underlying26, k1])
    omega
set_option maxRecDepth 100000 in
theorem wt_LLuint8 {v : Value} {x : XT_LLuint8} {d : DataW H} {p : List MemPlace} (hx : Is_LLuint8 w v x) (h : DataW.Trod enc Try.prog w 0 (fun _ => true) true 22 v d p) (hw : ∀ k ∈ d.weights Try.prog 22, k ≤ reachBytes) : ∀ i, i < x.n → x.L i ≤ reachBytes := by
  obtain ⟨rfl, hle, _, hB⟩ := hx
  obtain ⟨fuel, hf0⟩ := h
  have hf : DataW.trod enc Try.prog w 0 (fun _ => true) true fuel 22 [.slice x.a x.n x.cap] = some (d, p) := hf0
  clear hf0
  intro i hi
  obtain ⟨b, off, ha, hb, hc⟩ := hB.row (by omega)
  have hci := hc i hi
  have k5 : Try.prog.cellsOf 26 = 1 := by kernel_rfl
  rcases open_slice Try.underlying22 hf with ⟨hcs, _⟩ | ⟨x', l', c', m, n, D, Pl, hcs, _, hl, hm, hmm, hz, hi'⟩
  · simp at hcs
    omega
  · simp at hcs
    obtain ⟨hxa, rfl, rfl⟩ := hcs
    simp only [if_true] at hmm
    subst hmm
    cases hz
    rw [ha] at hxa
    cases hxa
    obtain ⟨cs', h1, h2⟩ := hi' i (by omega)
    rw [k5] at h1
    obtain ⟨_, hlen, hat⟩ := World.cells?_some h1
    have h4 := hat 0 (by omega)
    rw [Addr.add_lit, Addr.add_lit] at h4
    try simp only [Nat.mul_one, Nat.add_zero] at h4
    rw [hci] at h4
    obtain ⟨y, rfl⟩ : ∃ y, cs' = [y] := List.length_eq_one_iff.1 hlen
    have h5 : y = .slice (x.A i) (x.L i) (x.C i) := by
      first
      | exact (Option.some.inj h4).symm
      | exact (Option.some.inj h4)
    subst h5
    refine wt_bytes h2 (fun k hk => hw k ?_)
    simp only [DataW.weights, Try.underlying22, List.mem_cons, List.mem_append]
    refine .inr (.inl (wt_all (List.mem_map.2 ⟨i, by simp; omega, rfl⟩) k hk))
end
set_option maxRecDepth 100000 in
set_option maxHeartbeats 8000000 in
theorem rwhole30_c (w : World) (J : Jd) (ai af ao ab : Option Addr) (ci cf co cb : Nat) (fb fo ob oo : Nat) (A : Nat → Option Addr) (L C : Nat → Nat) (A2 : Nat → Option Addr) (L2 C2 : Nat → Nat) (h : JAt w J ai af ao ab fb fo ob oo A L C A2 L2 C2) :
    Calls Try.prog 5 #[.slice ai J.ni ci, .slice af J.N cf, .slice ao J.no co, .slice ab J.nb cb] w (BoolP J.whole w) := by
  have hr := rwhole_c w J ai af ao ab ci cf co cb fb fo ob oo A L C A2 L2 C2 h
  clear h
  go_enter Try.func5, Try.ntmps5
  go_wp2_with fail
  refine hr.mono ?_
  rintro e w' ⟨(⟨hw, rfl⟩ | ⟨hw, rfl⟩), hB⟩
  · go_wp2_with fail
    go_ret
    exact ⟨.inl ⟨hw, rfl⟩, hB⟩
  · go_wp2_with fail
    go_ret
    exact ⟨.inr ⟨hw, rfl⟩, hB⟩
end Go.Proofs.Ytjdkpoggcpckcaa
