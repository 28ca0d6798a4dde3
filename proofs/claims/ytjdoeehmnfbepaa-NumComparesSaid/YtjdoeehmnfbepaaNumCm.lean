/-
  The walk of NumCompares.
-/
import Derived.Test.YtjdoeehmnfbepaaNumS
import Derived.Deep.QuietTactic
import Derived.BigQuiet
import Derived.Deep.DeepCutAuto
import Derived.Deep.RegionHeld3
namespace Go.Proofs.Ytjdoeehmnfbepaa.Num
open Go.RowKit
set_option linter.unusedVariables false

def kind3V (n : Int) : Int := 2 + n % 18446744073709551616 % 3
theorem kind3_is (n : Int) : wrap64 (2 + wrap64 ((IntKind.u64.wrap n).tmod 3)) = kind3V n := by
  rw [u64_tmod]; unfold kind3V wrap64; omega
theorem kind3_or (n : Int) : kind3V n = 2 ∨ kind3V n = 3 ∨ kind3V n = 4 := by unfold kind3V; omega

theorem ret_true' {b : Bool} (h : b = true) : Ending.returned (.bool b) = .returned (.bool true) := by rw [h]
theorem flag_one (b : Bool) : (flagI b == 1) = b := by cases b <;> rfl

/-- the law's own closure: is a comparison so? -/
theorem cmp_cl {n T A B : Int} {b : Bool} {p q r : Addr} (w : World) (hT : w.cell? p = some (.int .i64 T)) (hA : w.cell? q = some (.int .i64 A)) (hB : w.cell? r = some (.int .i64 B)) (h : doesV n T false A B = (flagI b, 0)) :
    Calls Try.prog 16 #[.int .i64 n, .pointer (some p), .pointer (some q), .pointer (some r)] w fun e w' => e = .returned (.bool b) ∧ Below w.heap.size w w' := by
  have H := Lib.hid h
  clear h
  go_enter Try.func16, Try.ntmps16
  go_wp2_with fail
  refine (two_at _ H.out).mono ?_
  rintro e w1 ⟨rfl, hb⟩
  have hf := flag_one b
  go_wp2
  go_ret
  exact ⟨rfl, hb⟩

/-- a comparison's six answers: below, the same, above -/
def Six (A B : Int) (b9 b10 b11 b12 b13 b14 : Bool) : Prop :=
  (A < B ∧ b9 = false ∧ b10 = true ∧ b11 = true ∧ b12 = true ∧ b13 = false ∧ b14 = false) ∨
  (¬ A < B ∧ b9 = true ∧ b10 = false ∧ b11 = false ∧ b12 = true ∧ b13 = false ∧ b14 = true) ∨
  (¬ A < B ∧ b9 = false ∧ b10 = true ∧ b11 = false ∧ b12 = false ∧ b13 = true ∧ b14 = true)

set_option maxRecDepth 100000 in
set_option maxHeartbeats 8000000 in
theorem compares_core (a0 a10 a11 T A B : Int) (b9 b10 b11 b12 b13 b14 : Bool) (w : World) (HT : Hid (kind3V a0 = T)) (HA : Hid (wrappedV T a10 = A)) (HB : Hid (wrappedV T a11 = B))
    (H9 : Hid (doesV 9 T false A B = (flagI b9, 0))) (H10 : Hid (doesV 10 T false A B = (flagI b10, 0))) (H11 : Hid (doesV 11 T false A B = (flagI b11, 0)))
    (H12 : Hid (doesV 12 T false A B = (flagI b12, 0))) (H13 : Hid (doesV 13 T false A B = (flagI b13, 0))) (H14 : Hid (doesV 14 T false A B = (flagI b14, 0))) (HS : Six A B b9 b10 b11 b12 b13 b14) :
    Calls Try.prog 5 #[.int .i64 a0, .agg #[.int .i64 a10, .int .i64 a11]] w fun e w' => e = .returned (.bool true) ∧ Below w.heap.size w w' := by
  go_enter Try.func5, Try.ntmps5
  go_wp2_with fail
  refine (works_any _).mono ?_
  rintro e w1 ⟨rfl, hb⟩
  obtain ⟨hc1, hf1⟩ := bcell hb
  have hz1 : w.heap.size + 1 < w1.heap.size := by have := hb.size; simp at this; omega
  go_wp2_with fail
  rw [kind3_is, HT.out]
  have q1 : w1.cell? ⟨w.heap.size, 0, none⟩ = some (.int .i64 a0) := by rw [hc1 _ _ (by simp; omega)]; simp [go_sem]
  have q2 : w1.cell? ⟨w.heap.size + 1, 0, none⟩ = some (.int .i64 a10) := by rw [hc1 _ _ (by simp)]; simp [go_sem]
  have q3 : w1.cell? ⟨w.heap.size + 1, 1, none⟩ = some (.int .i64 a11) := by rw [hc1 _ _ (by simp)]; simp [go_sem]
  have bT : Below w.heap.size w (w1.setCell ⟨w.heap.size, 0, none⟩ (.int .i64 T)) := (bnext (below_new2 _ _ _) hb).setCell (Nat.le_refl _) _
  have r1 : (w1.setCell ⟨w.heap.size, 0, none⟩ (.int .i64 T)).cell? ⟨w.heap.size, 0, none⟩ = some (.int .i64 T) := World.cell?_setCell_same _ _ _ q1
  have r2 : (w1.setCell ⟨w.heap.size, 0, none⟩ (.int .i64 T)).cell? ⟨w.heap.size + 1, 0, none⟩ = some (.int .i64 a10) := by rw [World.cell?_setCell_other _ _ _ _ (by simp)]; exact q2
  have r3 : (w1.setCell ⟨w.heap.size, 0, none⟩ (.int .i64 T)).cell? ⟨w.heap.size + 1, 1, none⟩ = some (.int .i64 a11) := by rw [World.cell?_setCell_other _ _ _ _ (by simp)]; exact q3
  have z1 : w.heap.size + 1 < (w1.setCell ⟨w.heap.size, 0, none⟩ (.int .i64 T)).heap.size := by simp [World.setCell]; omega
  generalize w1.setCell ⟨w.heap.size, 0, none⟩ (.int .i64 T) = W1 at bT r1 r2 r3 z1 ⊢
  clear q1 q2 q3 hc1 hf1 hz1 hb
  go_cut [5, 6] (fun s5 s6 wx => ∃ ga gb : Nat, s5 = .pointer (some ⟨ga, 0, none⟩) ∧ s6 = .pointer (some ⟨gb, 0, none⟩) ∧ w.heap.size < ga ∧ ga < wx.heap.size ∧ w.heap.size < gb ∧ gb < wx.heap.size ∧ wx.cell? ⟨ga, 0, none⟩ = some (.int .i64 A) ∧ wx.cell? ⟨gb, 0, none⟩ = some (.int .i64 B) ∧ wx.cell? ⟨w.heap.size, 0, none⟩ = some (.int .i64 T) ∧ Below w.heap.size w wx)
  case first =>
    have e1 := World.new_ne W1 _ r1
    have e2 := World.new_ne W1 _ r2
    have e3 := World.new_ne W1 _ r3
    simp only at e1 e2 e3
    go_region_held3 (fun w' => w'.cell? ⟨w.heap.size, 0, none⟩ = some (.int .i64 T) ∧ w'.cell? ⟨w.heap.size + 1, 0, none⟩ = some (.int .i64 a10) ∧ w'.cell? ⟨w.heap.size + 1, 1, none⟩ = some (.int .i64 a11)) (go_keep)
      ((go_at_call 13; refine (wrapped_any _ _ _).mono ?_; rintro e w' ⟨rfl, rfl⟩))
    all_goals (go_wp2_with fail)
    all_goals go_meet
    all_goals refine ⟨_, _, rfl, rfl, ?_, ?_, ?_, ?_, ?_, ?_, ?_, ?_⟩
    all_goals first | omega | (simp; omega) | (simp; done) | (simp [go_sem, HA.out]; done) | (simp [go_sem, HB.out]; done) | exact ((bT.alloc (by omega) _).alloc (by simp; omega) _).drew | exact (World.cell?_alloc_lt _ _ _ (by simp; omega)).trans ((World.cell?_alloc_lt _ _ _ (by simp; omega)).trans r1)
  case rest =>
    obtain ⟨ga, gb, rfl, rfl, hg1, zA0, hg2, zB0, yA0, yB0, yT0, d0⟩ := hcut
    clear bT r1 r2 r3 z1
    go_wp2_with fail
    refine (cmp_cl _ yT0 yA0 yB0 H11.out).mono ?_
    rintro e v1 ⟨rfl, g1⟩
    have yT1 := (g1.cell (p := ⟨w.heap.size, 0, none⟩) (Nat.lt_trans hg1 zA0)).trans yT0
    have yA1 := (g1.cell (p := ⟨ga, 0, none⟩) zA0).trans yA0
    have yB1 := (g1.cell (p := ⟨gb, 0, none⟩) zB0).trans yB0
    have zA1 := Nat.lt_of_lt_of_le zA0 g1.size
    have zB1 := Nat.lt_of_lt_of_le zB0 g1.size
    have d1 := bnext d0 g1
    clear yT0 yA0 yB0 zA0 zB0 d0 g1
    go_wp2_with fail
    refine (cmp_cl _ yT1 yA1 yB1 H9.out).mono ?_
    rintro e v2 ⟨rfl, g2⟩
    have yT2 := (g2.cell (p := ⟨w.heap.size, 0, none⟩) (Nat.lt_trans hg1 zA1)).trans yT1
    have yA2 := (g2.cell (p := ⟨ga, 0, none⟩) zA1).trans yA1
    have yB2 := (g2.cell (p := ⟨gb, 0, none⟩) zB1).trans yB1
    have zA2 := Nat.lt_of_lt_of_le zA1 g2.size
    have zB2 := Nat.lt_of_lt_of_le zB1 g2.size
    have d2 := bnext d1 g2
    clear yT1 yA1 yB1 zA1 zB1 d1 g2
    go_wp2_with fail
    refine (cmp_cl _ yT2 yA2 yB2 H13.out).mono ?_
    rintro e v3 ⟨rfl, g3⟩
    have yT3 := (g3.cell (p := ⟨w.heap.size, 0, none⟩) (Nat.lt_trans hg1 zA2)).trans yT2
    have yA3 := (g3.cell (p := ⟨ga, 0, none⟩) zA2).trans yA2
    have yB3 := (g3.cell (p := ⟨gb, 0, none⟩) zB2).trans yB2
    have zA3 := Nat.lt_of_lt_of_le zA2 g3.size
    have zB3 := Nat.lt_of_lt_of_le zB2 g3.size
    have d3 := bnext d2 g3
    clear yT2 yA2 yB2 zA2 zB2 d2 g3
    rcases HS with ⟨hl, rfl, rfl, rfl, rfl, rfl, rfl⟩ | ⟨hl, rfl, rfl, rfl, rfl, rfl, rfl⟩ | ⟨hl, rfl, rfl, rfl, rfl, rfl, rfl⟩
    all_goals
      go_wp2_with fail
      refine (cmp_cl _ yT3 yA3 yB3 H12.out).mono ?_
      rintro e v4 ⟨rfl, g4⟩
      have yT4 := (g4.cell (p := ⟨w.heap.size, 0, none⟩) (Nat.lt_trans hg1 zA3)).trans yT3
      have yA4 := (g4.cell (p := ⟨ga, 0, none⟩) zA3).trans yA3
      have yB4 := (g4.cell (p := ⟨gb, 0, none⟩) zB3).trans yB3
      have zA4 := Nat.lt_of_lt_of_le zA3 g4.size
      have zB4 := Nat.lt_of_lt_of_le zB3 g4.size
      have d4 := bnext d3 g4
      clear yT3 yA3 yB3 zA3 zB3 d3 g4
      go_wp2_with fail
      refine (cmp_cl _ yT4 yA4 yB4 H14.out).mono ?_
      rintro e v5 ⟨rfl, g5⟩
      have yT5 := (g5.cell (p := ⟨w.heap.size, 0, none⟩) (Nat.lt_trans hg1 zA4)).trans yT4
      have yA5 := (g5.cell (p := ⟨ga, 0, none⟩) zA4).trans yA4
      have yB5 := (g5.cell (p := ⟨gb, 0, none⟩) zB4).trans yB4
      have zA5 := Nat.lt_of_lt_of_le zA4 g5.size
      have zB5 := Nat.lt_of_lt_of_le zB4 g5.size
      have d5 := bnext d4 g5
      clear yT4 yA4 yB4 zA4 zB4 d4 g5
      go_wp2_with fail
      refine (cmp_cl _ yT5 yA5 yB5 H10.out).mono ?_
      rintro e v6 ⟨rfl, g6⟩
      have yT6 := (g6.cell (p := ⟨w.heap.size, 0, none⟩) (Nat.lt_trans hg1 zA5)).trans yT5
      have yA6 := (g6.cell (p := ⟨ga, 0, none⟩) zA5).trans yA5
      have yB6 := (g6.cell (p := ⟨gb, 0, none⟩) zB5).trans yB5
      have zA6 := Nat.lt_of_lt_of_le zA5 g6.size
      have zB6 := Nat.lt_of_lt_of_le zB5 g6.size
      have d6 := bnext d5 g6
      clear yT5 yA5 yB5 zA5 zB5 d5 g6
      go_wp2
      go_ret
      first | exact ⟨rfl, d6⟩ | exact ⟨ret_true' (by simp; omega), d6⟩

theorem has_3 {t k : Int} (h : t = 2 ∨ t = 3 ∨ t = 4) (hk : k = 28 ∨ k = 30) : hasB k t = true := by
  rcases h with rfl | rfl | rfl <;> rcases hk with rfl | rfl <;> decide +kernel
theorem compares_walk (a0 a10 a11 : Int) (w0 : (Lit.int .i64 a0).wf = true) (w10 : (Lit.int .i64 a10).wf = true) (w11 : (Lit.int .i64 a11).wf = true) (w : World) :
    Calls Try.prog 5 #[.int .i64 a0, .agg #[.int .i64 a10, .int .i64 a11]] w fun e w' => e = .returned (.bool true) ∧ Below w.heap.size w w' := by
  have hk := kind3_or a0
  obtain ⟨T, hT⟩ : ∃ T, kind3V a0 = T := ⟨_, rfl⟩
  rw [hT] at hk
  have kk : knownB T = true := by rcases hk with rfl | rfl | rfl <;> rfl
  obtain ⟨A, hA⟩ : ∃ A, wrappedV T a10 = A := ⟨_, rfl⟩
  obtain ⟨B, hB⟩ : ∃ B, wrappedV T a11 = B := ⟨_, rfl⟩
  have fA : fitsB T A = true := by rw [← hA]; unfold wrappedV; rw [if_pos kk]; exact wrap_fits kk _
  have fB : fitsB T B = true := by rw [← hB]; unfold wrappedV; rw [if_pos kk]; exact wrap_fits kk _
  refine compares_core a0 a10 a11 T A B (A == B) (A != B) (decide (A < B)) (decide (A ≤ B)) (decide (B < A)) (decide (B ≤ A)) w hT hA hB ?_ ?_ ?_ ?_ ?_ ?_ ?_
  · show doesV 9 T false A B = _
    simp [doesV, opOne, opTruth, opK, has_3 hk, fA, fB, opV]
  · show doesV 10 T false A B = _
    simp [doesV, opOne, opTruth, opK, has_3 hk, fA, fB, opV]
  · show doesV 11 T false A B = _
    simp [doesV, opOne, opTruth, opK, has_3 hk, fA, fB, opV]
  · show doesV 12 T false A B = _
    simp [doesV, opOne, opTruth, opK, has_3 hk, fA, fB, opV]
  · show doesV 13 T false A B = _
    simp [doesV, opOne, opTruth, opK, has_3 hk, fA, fB, opV]
  · show doesV 14 T false A B = _
    simp [doesV, opOne, opTruth, opK, has_3 hk, fA, fB, opV]
  · unfold Six
    rcases Int.lt_trichotomy A B with h | h | h
    · left; simp; omega
    · right; left; simp; omega
    · right; right; simp; omega

end Go.Proofs.Ytjdoeehmnfbepaa.Num
