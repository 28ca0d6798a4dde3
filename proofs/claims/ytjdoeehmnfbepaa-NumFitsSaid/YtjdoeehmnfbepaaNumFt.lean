/-
  The walk of NumFits.
-/
import Derived.Test.YtjdoeehmnfbepaaNumTw
import Derived.Deep.QuietTactic
import Derived.BigQuiet
namespace Go.Proofs.Ytjdoeehmnfbepaa.Num
open Go.RowKit
set_option linter.unusedVariables false

theorem truth_flag {n : Int} (h1 : 9 ≤ n) (h2 : n ≤ 14) (a b : Int) : fitsB 1 (opV n a b) = true := by
  have : n = 9 ∨ n = 10 ∨ n = 11 ∨ n = 12 ∨ n = 13 ∨ n = 14 := by omega
  rw [fits1]
  rcases this with rfl | rfl | rfl | rfl | rfl | rfl <;> simp [opV, flagI] <;> split <;> omega

theorem does_out {n t a b : Int} (hk : knownB t = true) (ha : fitsB t a = true) (hb : fitsB t b = true) :
    (∃ R, doesV n t false a b = (0, R) ∧ (R = 40 ∨ R = 41)) ∨ (∃ R O, doesV n t false a b = (R, 0) ∧ resultV n t = (O, 0) ∧ fitsB O R = true) := by
  by_cases h : 1 ≤ n ∧ n ≤ 16
  · cases ho : opOne n
    · cases h3 : hasB (opK n) t
      · left; exact ⟨40, by simp [doesV, h, ho, h3], .inl rfl⟩
      · by_cases h6 : (n = 4 ∨ n = 5) ∧ b = 0
        · left; exact ⟨41, by simp only [doesV]; rw [if_neg (by omega), if_neg (by simp [ho]), if_neg (by simp [h3]), if_neg (by simp [ha]), if_neg (by simp [hb]), if_pos h6], .inr rfl⟩
        · right
          cases ht : opTruth n
          · exact ⟨wrapT t (opV n a b), t, by simp only [doesV]; rw [if_neg (by omega), if_neg (by simp [ho]), if_neg (by simp [h3]), if_neg (by simp [ha]), if_neg (by simp [hb]), if_neg h6, if_neg (by simp [ht])], by simp only [resultV]; rw [if_neg (by omega), if_neg (by simp [h3]), if_neg (by simp [ht])], wrap_fits hk _⟩
          · have h9 : 9 ≤ n ∧ n ≤ 14 := by simpa [opTruth] using ht
            exact ⟨opV n a b, 1, by simp only [doesV]; rw [if_neg (by omega), if_neg (by simp [ho]), if_neg (by simp [h3]), if_neg (by simp [ha]), if_neg (by simp [hb]), if_neg h6, if_pos ht], by simp only [resultV]; rw [if_neg (by omega), if_neg (by simp [h3]), if_pos ht], truth_flag h9.1 h9.2 a b⟩
    · left; exact ⟨40, by simp [doesV, h, ho], .inl rfl⟩
  · left; exact ⟨40, by unfold doesV; rw [if_pos h], .inl rfl⟩

set_option maxRecDepth 100000 in
set_option maxHeartbeats 2000000 in
theorem fits_unknown (a0 a1 a20 a21 : Int) (w : World) (hk : knownB a1 = false) :
    Calls Try.prog 10 #[.int .i64 a0, .int .i64 a1, .agg #[.int .i64 a20, .int .i64 a21]] w fun e w' => e = .returned (.bool true) ∧ Below w.heap.size w w' := by
  have HK : Hid ((if knownB a1 = true then wrapT a1 a20 else 0) = 0) := by show _ = _; simp [hk]
  have HG : Hid ((if knownB a1 = true then (0 : Int) else 40) = 40) := by show _ = _; simp [hk]
  have HF := Lib.hid (not_known hk a20)
  clear hk
  go_enter Try.func10, Try.ntmps10
  go_wp2_with fail
  refine (works_any _).mono ?_
  rintro e w1 ⟨rfl, hb⟩
  obtain ⟨hc1, hf1⟩ := bcell hb
  have hz1 : w.heap.size < w1.heap.size := by have := hb.size; simp at this; omega
  go_wp2_with fail
  refine (wrapE_at _ HK.out HG.out).mono ?_
  rintro e w' ⟨rfl, rfl⟩
  go_wp2_with fail
  refine (fits_at _ HF.out).mono ?_
  rintro e w' ⟨rfl, rfl⟩
  go_wp2
  go_ret
  exact ⟨rfl, bnext (below_new1 _ _) hb⟩

set_option maxRecDepth 100000 in
set_option maxHeartbeats 2000000 in
theorem fits_known_ (a0 a1 a20 a21 N M R G O : Int) (b : Bool) (w : World) (HK : Hid ((if knownB a1 = true then wrapT a1 a20 else 0) = N)) (HM : Hid ((if knownB a1 = true then wrapT a1 a21 else 0) = M)) (HN : Hid ((if knownB a1 = true then wrapT a1 N else 0) = N))
    (HG : Hid ((if knownB a1 = true then (0 : Int) else 40) = 0)) (HF : Hid (fitsB a1 N = true)) (HA : Hid (fitsB a1 a20 = b)) (hb : (N == a20) = b) (HD : Hid (doesV a0 a1 false N M = (R, G)))
    (hO : (R = 0 ∧ (G = 40 ∨ G = 41)) ∨ (G = 0 ∧ Hid (resultV a0 a1 = (O, 0)) ∧ Hid (fitsB O R = true))) :
    Calls Try.prog 10 #[.int .i64 a0, .int .i64 a1, .agg #[.int .i64 a20, .int .i64 a21]] w fun e w' => e = .returned (.bool true) ∧ Below w.heap.size w w' := by
  rcases hO with ⟨rfl, rfl | rfl⟩ | ⟨rfl, HO, HR⟩
  · go_enter Try.func10, Try.ntmps10
    go_wp2_with fail
    refine (works_any _).mono ?_
    rintro e w1 ⟨rfl, hb1⟩
    obtain ⟨hc1, hf1⟩ := bcell hb1
    have hz1 : w.heap.size < w1.heap.size := by have := hb1.size; simp at this; omega
    go_wp2_with fail
    refine (wrapE_at _ HK.out HG.out).mono ?_
    rintro e w' ⟨rfl, rfl⟩
    go_wp2_with fail
    refine (wrapE_at _ HN.out HG.out).mono ?_
    rintro e w' ⟨rfl, rfl⟩
    go_wp2_with fail
    cases b
    all_goals
      go_quiet ((go_at_call 27; (first | exact quiet_left (fits_at _ HF.out) | exact quiet_left (fits_at _ HA.out))))
      go_wp2_with fail
      refine (wrapE_at _ HM.out HG.out).mono ?_
      rintro e w' ⟨rfl, rfl⟩
      go_wp2_with fail
      refine (two_at _ HD.out).mono ?_
      rintro e w2 ⟨rfl, hb2⟩
      go_wp2
      go_ret
      exact ⟨rfl, bnext (below_drewN (bnext (below_new1 _ _) hb1) _) hb2⟩
  · go_enter Try.func10, Try.ntmps10
    go_wp2_with fail
    refine (works_any _).mono ?_
    rintro e w1 ⟨rfl, hb1⟩
    obtain ⟨hc1, hf1⟩ := bcell hb1
    have hz1 : w.heap.size < w1.heap.size := by have := hb1.size; simp at this; omega
    go_wp2_with fail
    refine (wrapE_at _ HK.out HG.out).mono ?_
    rintro e w' ⟨rfl, rfl⟩
    go_wp2_with fail
    refine (wrapE_at _ HN.out HG.out).mono ?_
    rintro e w' ⟨rfl, rfl⟩
    go_wp2_with fail
    cases b
    all_goals
      go_quiet ((go_at_call 27; (first | exact quiet_left (fits_at _ HF.out) | exact quiet_left (fits_at _ HA.out))))
      go_wp2_with fail
      refine (wrapE_at _ HM.out HG.out).mono ?_
      rintro e w' ⟨rfl, rfl⟩
      go_wp2_with fail
      refine (two_at _ HD.out).mono ?_
      rintro e w2 ⟨rfl, hb2⟩
      go_wp2
      go_ret
      exact ⟨rfl, bnext (below_drewN (bnext (below_new1 _ _) hb1) _) hb2⟩
  · go_enter Try.func10, Try.ntmps10
    go_wp2_with fail
    refine (works_any _).mono ?_
    rintro e w1 ⟨rfl, hb1⟩
    obtain ⟨hc1, hf1⟩ := bcell hb1
    have hz1 : w.heap.size < w1.heap.size := by have := hb1.size; simp at this; omega
    go_wp2_with fail
    refine (wrapE_at _ HK.out HG.out).mono ?_
    rintro e w' ⟨rfl, rfl⟩
    go_wp2_with fail
    refine (wrapE_at _ HN.out HG.out).mono ?_
    rintro e w' ⟨rfl, rfl⟩
    go_wp2_with fail
    cases b
    all_goals
      go_quiet ((go_at_call 27; (first | exact quiet_left (fits_at _ HF.out) | exact quiet_left (fits_at _ HA.out))))
      go_wp2_with fail
      refine (wrapE_at _ HM.out HG.out).mono ?_
      rintro e w' ⟨rfl, rfl⟩
      go_wp2_with fail
      refine (two_at _ HD.out).mono ?_
      rintro e w2 ⟨rfl, hb2⟩
      go_wp2_with fail
      refine (result_at _ HO.out).mono ?_
      rintro e w3 ⟨rfl, hb3⟩
      go_wp2_with fail
      refine (fits_at _ HR.out).mono ?_
      rintro e w' ⟨rfl, rfl⟩
      go_wp2
      go_ret
      exact ⟨rfl, bnext (bnext (below_drewN (bnext (below_new1 _ _) hb1) _) hb2) hb3⟩

theorem fits_walk (a0 a1 a20 a21 : Int) (w0 : (Lit.int .i64 a0).wf = true) (w1 : (Lit.int .i64 a1).wf = true) (w20 : (Lit.int .i64 a20).wf = true) (w21 : (Lit.int .i64 a21).wf = true) (w : World) :
    Calls Try.prog 10 #[.int .i64 a0, .int .i64 a1, .agg #[.int .i64 a20, .int .i64 a21]] w fun e w' => e = .returned (.bool true) ∧ Below w.heap.size w w' := by
  cases hk : knownB a1
  · exact fits_unknown a0 a1 a20 a21 w hk
  · have fN := wrap_fits hk a20
    have fM := wrap_fits hk a21
    have hb : (wrapT a1 a20 == a20) = fitsB a1 a20 := by simp [fitsB, hk]
    rcases does_out (n := a0) hk fN fM with ⟨G, hD, hG⟩ | ⟨R, O, hD, hO, hR⟩
    · exact fits_known_ a0 a1 a20 a21 _ _ 0 G 0 _ w (if_pos hk) (if_pos hk) (by show _ = _; rw [if_pos hk, fits_wrap fN]) (if_pos hk) fN rfl hb hD (.inl ⟨rfl, hG⟩)
    · exact fits_known_ a0 a1 a20 a21 _ _ R 0 O _ w (if_pos hk) (if_pos hk) (by show _ = _; rw [if_pos hk, fits_wrap fN]) (if_pos hk) fN rfl hb hD (.inr ⟨rfl, hO, hR⟩)

end Go.Proofs.Ytjdoeehmnfbepaa.Num
