/-
  The contracts of layer 4 (num): num.does and num.Two, over all their arguments.
-/
import Derived.Test.YtefflkmegodafaaDoorNumD
namespace Go.Proofs.YtefflkmegodafaaDoor.Num
open Go.RowKit

theorem does_to {n t a b : Int} {one : Bool} {w : World} {v : Int × Int} (h : Calls Tryd.prog 60 #[.int .i64 n, .int .i64 t, .bool one, .int .i64 a, .int .i64 b] w (DoesTo w v)) (e : doesV n t one a b = v) :
    Calls Tryd.prog 60 #[.int .i64 n, .int .i64 t, .bool one, .int .i64 a, .int .i64 b] w (DoesTo w (doesV n t one a b)) := by rw [e]; exact h

theorem does_any (n t a b : Int) (one : Bool) (w : World) : Calls Tryd.prog 60 #[.int .i64 n, .int .i64 t, .bool one, .int .i64 a, .int .i64 b] w (DoesTo w (doesV n t one a b)) := by
  by_cases h : 1 ≤ n ∧ n ≤ 16
  · obtain ⟨h1, h2⟩ := h
    by_cases ho : opOne n = one
    · subst ho
      cases h3 : hasB (opK n) t
      · exact does_to (does_C n t a b w h1 h2 h3) (by simp [doesV, h1, h2, h3])
      · cases h4 : fitsB t a
        · exact does_to (does_D n t a b w h1 h2 h3 h4) (by simp [doesV, h1, h2, h3, h4])
        · cases h5 : fitsB t b
          · exact does_to (does_E n t a b w h1 h2 h3 h4 h5) (by simp [doesV, h1, h2, h3, h4, h5])
          · have hn : n = 1 ∨ n = 2 ∨ n = 3 ∨ n = 4 ∨ n = 5 ∨ n = 6 ∨ n = 7 ∨ n = 8 ∨ n = 9 ∨ n = 10 ∨ n = 11 ∨ n = 12 ∨ n = 13 ∨ n = 14 ∨ n = 15 ∨ n = 16 := by omega
            rcases hn with rfl | rfl | rfl | rfl | rfl | rfl | rfl | rfl | rfl | rfl | rfl | rfl | rfl | rfl | rfl | rfl
            · exact does_to (does_G1 t a b w h3 h4 h5) (by simp [doesV, h3, h4, h5, opTruth])
            · exact does_to (does_G2 t a b w h3 h4 h5) (by simp [doesV, h3, h4, h5, opTruth])
            · exact does_to (does_G3 t a b w h3 h4 h5) (by simp [doesV, h3, h4, h5, opTruth])
            · by_cases h6 : b = 0
              · subst h6
                exact does_to (does_F4 t a w h3 h4 h5) (by simp [doesV, h3, h4, h5])
              · exact does_to (does_G4 t a b w h3 h4 h5 h6) (by simp [doesV, h3, h4, h5, h6, opTruth])
            · by_cases h6 : b = 0
              · subst h6
                exact does_to (does_F5 t a w h3 h4 h5) (by simp [doesV, h3, h4, h5])
              · exact does_to (does_G5 t a b w h3 h4 h5 h6) (by simp [doesV, h3, h4, h5, h6, opTruth])
            · exact does_to (does_G6 t a b w h3 h4 h5) (by simp [doesV, h3, h4, h5, opTruth])
            · exact does_to (does_G7 t a b w h3 h4 h5) (by simp [doesV, h3, h4, h5, opTruth])
            · exact does_to (does_G8 t a b w h3 h4 h5) (by simp [doesV, h3, h4, h5, opTruth])
            · exact does_to (does_G9 t a b w h3 h4 h5) (by simp [doesV, h3, h4, h5, opTruth])
            · exact does_to (does_G10 t a b w h3 h4 h5) (by simp [doesV, h3, h4, h5, opTruth])
            · exact does_to (does_G11 t a b w h3 h4 h5) (by simp [doesV, h3, h4, h5, opTruth])
            · exact does_to (does_G12 t a b w h3 h4 h5) (by simp [doesV, h3, h4, h5, opTruth])
            · exact does_to (does_G13 t a b w h3 h4 h5) (by simp [doesV, h3, h4, h5, opTruth])
            · exact does_to (does_G14 t a b w h3 h4 h5) (by simp [doesV, h3, h4, h5, opTruth])
            · exact does_to (does_G15 t a b w h3 h4 h5) (by simp [doesV, h3, h4, h5, opTruth])
            · exact does_to (does_G16 t a b w h3 h4 h5) (by simp [doesV, h3, h4, h5, opTruth])
    · exact does_to (does_B n t a b one w h1 h2 ho) (by simp [doesV, h1, h2, ho])
  · exact does_to (does_A n t a b one w h) (by unfold doesV; rw [if_pos h])

theorem two_any (n t a b : Int) (w : World) : Calls Tryd.prog 54 #[.int .i64 n, .int .i64 t, .int .i64 a, .int .i64 b] w (DoesTo w (doesV n t false a b)) := by
  go_enter Tryd.func54, Tryd.ntmps54
  go_wp2_with fail
  refine (does_any _ _ _ _ _ _).mono ?_
  rintro e w1 ⟨rfl, hb⟩
  go_wp2
  go_ret2
  exact ⟨rfl, hb⟩

end Go.Proofs.YtefflkmegodafaaDoor.Num
