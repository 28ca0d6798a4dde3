/-
  The walk of the chapter's example (capstanlaw04.works), and of the small functions of its statements.
-/
import Derived.Test.YtjdoeehmnfbepaaNumE
import Derived.Deep.LoopGhost
import Derived.Deep.DeepFit
namespace Go.Proofs.Ytjdoeehmnfbepaa.Num
open Go.RowKit

theorem bcell {W w1 : World} (hb : Below W.heap.size W w1) : (∀ b o, b < W.heap.size → w1.cell? ⟨b, o, none⟩ = W.cell? ⟨b, o, none⟩) ∧ (∀ b o, b < W.heap.size → w1.frozen? ⟨b, o, none⟩ = W.frozen? ⟨b, o, none⟩) :=
  ⟨fun b o h => hb.cell (p := ⟨b, o, none⟩) h, fun b o h => hb.frozen (p := ⟨b, o, none⟩) h⟩

/-- the example's rows -/
def exs : List (Int × Int × Int × Int) := [(1, 32767, 1, -32768), (4, -7, 2, -3), (5, -7, 2, -1), (4, -32768, -1, -32768)]
theorem ex_1 : doesV 1 2 false 32767 1 = (-32768, 0) := by decide +kernel
theorem ex_2 : doesV 4 2 false (-7) 2 = (-3, 0) := by decide +kernel
theorem ex_3 : doesV 5 2 false (-7) 2 = (-1, 0) := by decide +kernel
theorem ex_4 : doesV 4 2 false (-32768) (-1) = (-32768, 0) := by decide +kernel
theorem ex_5 : doesV 16 2 true 5 5 = (-6, 0) := by decide +kernel
theorem ex_6 : doesV 4 2 false 5 0 = (0, 41) := by decide +kernel

theorem two_at {n t a b : Int} {v e : Int} (w : World) (h : doesV n t false a b = (v, e)) : Calls Try.prog 15 #[.int .i64 n, .int .i64 t, .int .i64 a, .int .i64 b] w fun x w' => x = .returned (.tuple #[.int .i64 v, .int .i64 e]) ∧ Below w.heap.size w w' :=
  (two_any n t a b w).mono fun x w' hx => by rw [h] at hx; exact hx
theorem one_at {n t a : Int} {v e : Int} (w : World) (h : doesV n t true a a = (v, e)) : Calls Try.prog 17 #[.int .i64 n, .int .i64 t, .int .i64 a] w fun x w' => x = .returned (.tuple #[.int .i64 v, .int .i64 e]) ∧ Below w.heap.size w w' :=
  (one_any n t a w).mono fun x w' hx => by rw [h] at hx; exact hx

set_option maxRecDepth 100000 in
set_option maxHeartbeats 2000000 in
theorem works_any (w : World) : Calls Try.prog 11 #[] w fun e w' => e = .returned (.bool true) ∧ Below w.heap.size w w' := by
  go_enter Try.func11, Try.ntmps11
  go_wp2
  go_loopw [15] (fun i wr => ∃ k : Nat, k ≤ 4 ∧ i = .int .i64 k ∧ Below (w.heap.size + 1) (w.alloc (.cells #[.int .i64 1, .int .i64 32767, .int .i64 1, .int .i64 (-32768), .int .i64 4, .int .i64 (-7), .int .i64 2, .int .i64 (-3), .int .i64 5, .int .i64 (-7), .int .i64 2, .int .i64 (-1), .int .i64 4, .int .i64 (-32768), .int .i64 (-1), .int .i64 (-32768)] 43)) wr) (fun i _ => 4 - (intOf i).toNat)
  case atStart => exact ⟨0, by omega, rfl, Below.refl _ _⟩
  case round =>
    obtain ⟨k, hk, rfl, hB⟩ := hrel
    have hz : w.heap.size < wr.heap.size := by have := hB.size; simp at this; omega
    have hc := fun j => hB.cell (p := ⟨w.heap.size, j, none⟩) (by simp)
    have hBw : Below w.heap.size w wr := ((Below.refl w.heap.size w).alloc (Nat.le_refl _) _).trans (hB.mono (by omega))
    have hk4 : k = 0 ∨ k = 1 ∨ k = 2 ∨ k = 3 ∨ k = 4 := by omega
    clear hk
    rcases hk4 with rfl | rfl | rfl | rfl | rfl
    · go_wp2_with fail
      refine (two_at _ ex_1).mono ?_
      rintro e w2 ⟨rfl, hb⟩
      obtain ⟨hc2, hf2⟩ := bcell hb
      go_wp2
      go_roundw
      case rel => exact ⟨1, by omega, rfl, (hB.alloc (by omega) _).trans (hb.mono (by simp; omega))⟩
      case measure => simp [intOf]
    · go_wp2_with fail
      refine (two_at _ ex_2).mono ?_
      rintro e w2 ⟨rfl, hb⟩
      obtain ⟨hc2, hf2⟩ := bcell hb
      go_wp2
      go_roundw
      case rel => exact ⟨2, by omega, rfl, (hB.alloc (by omega) _).trans (hb.mono (by simp; omega))⟩
      case measure => simp [intOf]
    · go_wp2_with fail
      refine (two_at _ ex_3).mono ?_
      rintro e w2 ⟨rfl, hb⟩
      obtain ⟨hc2, hf2⟩ := bcell hb
      go_wp2
      go_roundw
      case rel => exact ⟨3, by omega, rfl, (hB.alloc (by omega) _).trans (hb.mono (by simp; omega))⟩
      case measure => simp [intOf]
    · go_wp2_with fail
      refine (two_at _ ex_4).mono ?_
      rintro e w2 ⟨rfl, hb⟩
      obtain ⟨hc2, hf2⟩ := bcell hb
      go_wp2
      go_roundw
      case rel => exact ⟨4, by omega, rfl, (hB.alloc (by omega) _).trans (hb.mono (by simp; omega))⟩
      case measure => simp [intOf]
    · go_wp2_with fail
      refine (one_at _ ex_5).mono ?_
      rintro e w2 ⟨rfl, hb⟩
      go_wp2_with fail
      refine (two_at _ ex_6).mono ?_
      rintro e w3 ⟨rfl, hb3⟩
      go_wp2
      go_ret
      exact ⟨rfl, hBw.trans ((hb.mono hBw.size).trans (hb3.mono (Nat.le_trans hBw.size hb.size)))⟩

end Go.Proofs.Ytjdoeehmnfbepaa.Num
