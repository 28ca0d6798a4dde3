/-
  The walk of layer 21's law functions: works: the chapter's example.
-/
import Derived.Test.YtdajedggennljaaPlanAnswersPlD
namespace Go.Proofs.Ytdajedggennljaa.PPlanAnswers
open Go.RowKit Go.Shelf Go.Proofs.YtdajedggennljaaW.PrintWords Go.Proofs.YtdajedggennljaaW.PrintLast Go.Proofs.YtdajedggennljaaW.PrintMore
attribute [local go_sem] Oper.semAt_some

def ws0 : List S36 := [⟨0, 0, 3⟩, ⟨1, 5, 2⟩]
theorem ws0_C {w : World} {b : Nat} (h0 : w.cell? ⟨b, 0, none⟩ = some (.int .i64 0)) (h1 : w.cell? ⟨b, 1, none⟩ = some (.int .i64 0)) (h2 : w.cell? ⟨b, 2, none⟩ = some (.int .i64 3))
    (h3 : w.cell? ⟨b, 3, none⟩ = some (.int .i64 1)) (h4 : w.cell? ⟨b, 4, none⟩ = some (.int .i64 5)) (h5 : w.cell? ⟨b, 5, none⟩ = some (.int .i64 2)) : Kd.C k36 w (some ⟨b, 0, none⟩) ws0.length ws0 := by
  refine ⟨rfl, by simp [ws0], fun _ => ⟨_, rfl, fun j p hp => ?_⟩⟩
  rcases j with _ | _ | j
  · simp [ws0] at hp; subst hp
    refine ⟨_, rfl, k36_mk _ _, fun i u hu => ?_⟩
    rcases i with _ | _ | _ | i <;> simp at hu
    · subst hu; exact h0
    · subst hu; exact h1
    · subst hu; exact h2
  · simp [ws0] at hp; subst hp
    refine ⟨_, rfl, k36_mk _ _, fun i u hu => ?_⟩
    rcases i with _ | _ | _ | i <;> simp at hu
    · subst hu; exact h3
    · subst hu; exact h4
    · subst hu; exact h5
  · simp [ws0] at hp
theorem at12 : atV 10 ws0 2 12 = (0, 1, 0) := by decide +kernel
theorem at4 : atV 10 ws0 2 4 = (-1, 0, 0) := by decide +kernel
theorem s0 : startsV 10 ws0 2 1 0 = (5, 0) := by decide +kernel
theorem s1 : startsV 10 ws0 2 1 1 = (15, 0) := by decide +kernel
theorem s2 : startsV 10 ws0 2 1 2 = (25, 0) := by decide +kernel

theorem works_true (w : World) : Calls Try.prog 7 #[] w fun e w' => e = .returned (.bool true) ∧ Below w.heap.size w w' := by
  go_enter Try.func7, Try.ntmps7
  go_wp2_with fail
  refine (plan_at_any 10 _ 2 ws0 2 12 _ (ws0_C (by simp [go_sem]) (by simp [go_sem]) (by simp [go_sem]) (by simp [go_sem]) (by simp [go_sem]) (by simp [go_sem])) (by simp [ws0]) (by omega)).mono ?_
  rw [at12]
  rintro e w1 ⟨rfl, hb⟩
  obtain ⟨hc1, hf1⟩ := bcell hb
  have hz1 : w.heap.size + 1 < w1.heap.size := by have := hb.size; simp at this; omega
  have hbw : Below w.heap.size w w1 := bnext ((bnew _ _).alloc (by simp) _) hb
  have r1 : Kd.C k36 w1 (some ⟨w.heap.size, 0, none⟩) ws0.length ws0 := Kd.C_below (ws0_C (by simp [go_sem]) (by simp [go_sem]) (by simp [go_sem]) (by simp [go_sem]) (by simp [go_sem]) (by simp [go_sem])) hb
  have c0 : w1.cell? ⟨w.heap.size + 1, 0, none⟩ = some (.int .i64 10) := by rw [hc1 _ _ (by simp)]; simp [go_sem]
  have c1 : w1.cell? ⟨w.heap.size + 1, 1, none⟩ = some (.slice (some ⟨w.heap.size, 0, none⟩) 2 2) := by rw [hc1 _ _ (by simp)]; simp [go_sem]
  have R1 := Lib.hid r1
  clear hb hc1 hf1 r1
  go_wp2_with fail
  refine (plan_at_any 10 _ 2 ws0 2 4 _ R1.out (by simp [ws0]) (by omega)).mono ?_
  rw [at4]
  rintro e w2 ⟨rfl, hb⟩
  have hbw2 := bnext hbw hb
  have r2 := Kd.C_below R1.out hb
  have R2 := Lib.hid r2
  have c02 := (hb.cell (p := ⟨w.heap.size + 1, 0, none⟩) (by simp; omega)).trans c0
  have c12 := (hb.cell (p := ⟨w.heap.size + 1, 1, none⟩) (by simp; omega)).trans c1
  have hz2 : w.heap.size + 1 < w2.heap.size := Nat.lt_of_lt_of_le hz1 hb.size
  clear hz1 hbw c0 c1 hb r2
  go_wp2_with fail
  have d0 : (w2.alloc (.cells #[.int .i64 5, .int .i64 15, .int .i64 25] 3)).cell? ⟨w2.heap.size, 0, none⟩ = some (.int .i64 5) := by simp [go_sem]
  have d1 : (w2.alloc (.cells #[.int .i64 5, .int .i64 15, .int .i64 25] 3)).cell? ⟨w2.heap.size, 1, none⟩ = some (.int .i64 15) := by simp [go_sem]
  have d2 : (w2.alloc (.cells #[.int .i64 5, .int .i64 15, .int .i64 25] 3)).cell? ⟨w2.heap.size, 2, none⟩ = some (.int .i64 25) := by simp [go_sem]
  have r3 := Kd.C_alloc R2.out (.cells #[.int .i64 5, .int .i64 15, .int .i64 25] 3)
  have R3 := Lib.hid r3
  have c03 := (World.cell?_alloc_lt w2 (.cells #[.int .i64 5, .int .i64 15, .int .i64 25] 3) ⟨w.heap.size + 1, 0, none⟩ hz2).trans c02
  have c13 := (World.cell?_alloc_lt w2 (.cells #[.int .i64 5, .int .i64 15, .int .i64 25] 3) ⟨w.heap.size + 1, 1, none⟩ hz2).trans c12
  have hbw3 := hbw2.alloc (by omega) (.cells #[.int .i64 5, .int .i64 15, .int .i64 25] 3)
  have hz3 : w2.heap.size < (w2.alloc (.cells #[.int .i64 5, .int .i64 15, .int .i64 25] 3)).heap.size := by simp
  have hz4 : w.heap.size + 1 < (w2.alloc (.cells #[.int .i64 5, .int .i64 15, .int .i64 25] 3)).heap.size := by simp; omega
  generalize w2.alloc (.cells #[.int .i64 5, .int .i64 15, .int .i64 25] 3) = W3 at d0 d1 d2 R3 c03 c13 hbw3 hz3 hz4 ⊢
  clear hbw2 c02 c12 r3 R1 R2
  go_loopw [48] (fun i wr => ∃ m : Nat, m ≤ 3 ∧ i = .int .i64 m ∧ Below w.heap.size w wr ∧ Below W3.heap.size W3 wr) (fun i _ => 3 - (intOf i).toNat)
  case atStart => exact ⟨0, by omega, rfl, hbw3, Below.refl _ _⟩
  case round =>
    obtain ⟨m, hm, rfl, hB, hB3⟩ := hrel
    have e0 := (hB3.cell (p := ⟨w2.heap.size, 0, none⟩) hz3).trans d0
    have e1 := (hB3.cell (p := ⟨w2.heap.size, 1, none⟩) hz3).trans d1
    have e2 := (hB3.cell (p := ⟨w2.heap.size, 2, none⟩) hz3).trans d2
    have f0 := (hB3.cell (p := ⟨w.heap.size + 1, 0, none⟩) hz4).trans c03
    have f1 := (hB3.cell (p := ⟨w.heap.size + 1, 1, none⟩) hz4).trans c13
    have rr := Kd.C_below R3.out hB3
    have RR := Lib.hid rr
    clear d0 d1 d2 c03 c13 rr
    rcases m with _ | _ | _ | _ | m
    · go_wp2_with fail
      refine (starts_all 10 _ 2 ws0 2 1 0 _ RR.out (by simp [ws0])).mono ?_
      rw [s0]
      rintro e w4 ⟨rfl, hb⟩
      go_wp2
      go_roundw
      case rel => exact ⟨1, by omega, rfl, bnext hB hb, bnext hB3 hb⟩
      case measure => simp [intOf]
    · go_wp2_with fail
      refine (starts_all 10 _ 2 ws0 2 1 1 _ RR.out (by simp [ws0])).mono ?_
      rw [s1]
      rintro e w4 ⟨rfl, hb⟩
      go_wp2
      go_roundw
      case rel => exact ⟨2, by omega, rfl, bnext hB hb, bnext hB3 hb⟩
      case measure => simp [intOf]
    · go_wp2_with fail
      refine (starts_all 10 _ 2 ws0 2 1 2 _ RR.out (by simp [ws0])).mono ?_
      rw [s2]
      rintro e w4 ⟨rfl, hb⟩
      go_wp2
      go_roundw
      case rel => exact ⟨3, by omega, rfl, bnext hB hb, bnext hB3 hb⟩
      case measure => simp [intOf]
    · go_wp2
      go_ret
      exact ⟨rfl, hB⟩
    · omega

end Go.Proofs.Ytdajedggennljaa.PPlanAnswers
