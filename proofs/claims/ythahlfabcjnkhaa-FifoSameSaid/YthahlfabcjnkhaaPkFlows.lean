/- The walk of PacketFlows. -/
import Derived.Test.YthahlfabcjnkhaaPk7
import Derived.Test.YthahlfabcjnkhaaPkOpen
namespace Go.Proofs.Ythahlfabcjnkhaa
open Go.ChangeShapes Go.WideShapes Go.ChangeAt Go.RowKit
set_option linter.unusedVariables false
set_option linter.unusedSimpArgs false
open Pk BigFrame

set_option maxRecDepth 100000 in
set_option maxHeartbeats 4000000 in
theorem packetFlows_walk (w : World) (v0 : Value) (a0 : XT_LFlow) (v1 : Value) (a1 : XT_Packet) (w0 : Is_LFlow w v0 a0) (w1 : Is_Packet w v1 a1) :
    Calls Try.prog 3 #[v0, v1] w fun e w' => e = .returned (.bool true) ∧ Below w.heap.size w w' := by
  obtain ⟨a, N, cap, T⟩ := a0
  obtain ⟨num, t, C, pa, pn, pcap, f⟩ := a1
  obtain ⟨rfl, hl, hm, hrow⟩ := w0
  obtain ⟨rfl, f0, f1, f2, hl2, hm2, _⟩ := w1
  simp only at hl hm hrow hl2 hm2 f0 f1 f2
  have hC := (i64_b f2).2
  have hB0 := (Below.refl w.heap.size w).alloc (Nat.le_refl _) (.cells #[.int .i64 num, .int .i64 t, .int .i64 C, .slice pa pn pcap] 25)
  by_cases h60 : 60 < N
  · have h60' : (60 : Int) < (N : Int) := by omega
    go_enter Try.func3, Try.ntmps3
    go_wp2_with fail
    refine (wakes23_c _).mono ?_
    rintro e w9 ⟨rfl, hb9⟩
    go_wp2
    go_ret
    exact ⟨rfl, bNext hB0 hb9 (Nat.le_refl _)⟩
  · have h60' : ¬ (60 : Int) < (N : Int) := by omega
    obtain ⟨rb, off, hrb, ha, hr⟩ : ∃ rb off, (0 < N → rb < w.heap.size) ∧ (0 < N → a = some ⟨rb, off, none⟩) ∧ (∀ i, i < N → w.cell? ⟨rb, off + i * 3, none⟩ = some (.int .i64 (T i))) := by
      by_cases hN : 0 < N
      · obtain ⟨b, off, h1, h2, h3⟩ := hrow hN
        exact ⟨b, off, fun _ => h2, fun _ => h1, h3⟩
      · exact ⟨0, 0, fun h => absurd h hN, fun h => absurd h hN, fun i hi => absurd hi (by omega)⟩
    have c1 := fun u (hu : Below w.heap.size w u) => flow_c T num t C (.slice pa pn pcap) a N cap rb off u (by omega) (fun h => by have := hrb h; have := hu.size; omega) ha (fun i hi => (hu.cell (p := ⟨rb, off + i * 3, none⟩) (hrb (by omega))).trans (hr i hi)) hC
    have c2 := fun u (hu : Below w.heap.size w u) => rflow_c T num t C (.slice pa pn pcap) a N cap rb off u (by omega) (fun h => by have := hrb h; have := hu.size; omega) ha (fun i hi => (hu.cell (p := ⟨rb, off + i * 3, none⟩) (hrb (by omega))).trans (hr i hi)) hC
    obtain ⟨X, hX⟩ : ∃ X, flowI T N t C = X := ⟨_, rfl⟩
    obtain ⟨Y, hY⟩ : ∃ Y, flowE T N t C = Y := ⟨_, rfl⟩
    rw [hX, hY] at c1 c2
    clear hX hY hr ha hrb hrow
    go_enter Try.func3, Try.ntmps3
    go_wp2_with fail
    refine (c1 _ hB0).mono ?_
    rintro e w2 ⟨rfl, hb2⟩
    have hB2 := bNext hB0 hb2 (Nat.le_refl _)
    have p0 : w2.cell? ⟨w.heap.size, 0, none⟩ = some (.int .i64 num) := (hb2.cell (p := ⟨w.heap.size, 0, none⟩) (by simp)).trans (by go_simp)
    have p1 : w2.cell? ⟨w.heap.size, 1, none⟩ = some (.int .i64 t) := (hb2.cell (p := ⟨w.heap.size, 1, none⟩) (by simp)).trans (by go_simp)
    have p2 : w2.cell? ⟨w.heap.size, 2, none⟩ = some (.int .i64 C) := (hb2.cell (p := ⟨w.heap.size, 2, none⟩) (by simp)).trans (by go_simp)
    have p3 : w2.cell? ⟨w.heap.size, 3, none⟩ = some (.slice pa pn pcap) := (hb2.cell (p := ⟨w.heap.size, 3, none⟩) (by simp)).trans (by go_simp)
    clear hb2
    go_wp2_with fail
    refine (c2 _ hB2).mono ?_
    rintro e w3 ⟨rfl, hb3⟩
    have hB3 := bNext hB2 hb3 (Nat.le_refl _)
    go_wp2_with fail
    refine (wakes23_c _).mono ?_
    rintro e w9 ⟨rfl, hb9⟩
    go_wp2
    go_ret
    exact ⟨rfl, bNext hB3 hb9 (Nat.le_refl _)⟩
end Go.Proofs.Ythahlfabcjnkhaa
