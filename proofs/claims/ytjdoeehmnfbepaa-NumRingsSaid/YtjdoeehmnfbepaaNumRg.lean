/-
  The walk of NumRings.
-/
import Derived.Test.YtjdoeehmnfbepaaNumS
import Derived.Deep.QuietTactic
import Derived.BigQuiet
namespace Go.Proofs.Ytjdoeehmnfbepaa.Num
open Go.RowKit
set_option linter.unusedVariables false

/-! xor twice -/
theorem xor_i64 (a b : Int) : bits .xor .i64 a b = (BitVec.ofInt 64 a ^^^ BitVec.ofInt 64 b).toInt := by
  show IntKind.i64.wrap ((BitVec.ofInt 64 a ^^^ BitVec.ofInt 64 b).toNat : Nat) = _
  generalize BitVec.ofInt 64 a ^^^ BitVec.ofInt 64 b = x
  rw [IntKind.wrap_i64, BitVec.toInt_eq_toNat_cond]
  have := x.isLt
  split <;> omega
theorem low16 (x : BitVec 64) : BitVec.ofInt 16 x.toInt = x.setWidth 16 := by
  apply BitVec.eq_of_toNat_eq
  rw [BitVec.toNat_ofInt, BitVec.toNat_setWidth, BitVec.toInt_eq_toNat_cond]
  have := x.isLt
  split <;> omega
theorem low32 (x : BitVec 64) : BitVec.ofInt 32 x.toInt = x.setWidth 32 := by
  apply BitVec.eq_of_toNat_eq
  rw [BitVec.toNat_ofInt, BitVec.toNat_setWidth, BitVec.toInt_eq_toNat_cond]
  have := x.isLt
  split <;> omega
theorem low16' (a : Int) : (BitVec.ofInt 64 a).setWidth 16 = BitVec.ofInt 16 a := by
  apply BitVec.eq_of_toNat_eq
  rw [BitVec.toNat_setWidth, BitVec.toNat_ofInt, BitVec.toNat_ofInt]
  omega
theorem low32' (a : Int) : (BitVec.ofInt 64 a).setWidth 32 = BitVec.ofInt 32 a := by
  apply BitVec.eq_of_toNat_eq
  rw [BitVec.toNat_setWidth, BitVec.toNat_ofInt, BitVec.toNat_ofInt]
  omega
theorem wrap2_bv (n : Int) : wrapT 2 n = (BitVec.ofInt 16 n).toInt := by
  rw [wrap2, BitVec.toInt_ofInt, Int.bmod_def]; omega
theorem wrap3_bv (n : Int) : wrapT 3 n = (BitVec.ofInt 32 n).toInt := by
  rw [wrap3, BitVec.toInt_ofInt, Int.bmod_def]; omega
theorem xor_back {t a : Int} (b : Int) (h : t = 2 ∨ t = 3) (ha : fitsB t a = true) : wrapT t (bits .xor .i64 (wrapT t (bits .xor .i64 a b)) b) = a := by
  rcases h with rfl | rfl
  · rw [wrap2_bv, xor_i64 _ b, low16, BitVec.setWidth_xor, low16', low16', wrap2_bv, BitVec.ofInt_toInt, xor_i64, low16, BitVec.setWidth_xor, low16', low16', BitVec.xor_assoc, BitVec.xor_self, BitVec.xor_zero, ← wrap2_bv]
    exact fits_wrap ha
  · rw [wrap3_bv, xor_i64 _ b, low32, BitVec.setWidth_xor, low32', low32', wrap3_bv, BitVec.ofInt_toInt, xor_i64, low32, BitVec.setWidth_xor, low32', low32', BitVec.xor_assoc, BitVec.xor_self, BitVec.xor_zero, ← wrap3_bv]
    exact fits_wrap ha

/-- the law's own closure: an operation of two values -/
theorem ring_cl {n T a b v : Int} {p : Addr} (w : World) (hc : w.cell? p = some (.int .i64 T)) (h : doesV n T false a b = (v, 0)) :
    Calls Try.prog 14 #[.int .i64 n, .int .i64 a, .int .i64 b, .pointer (some p)] w fun e w' => e = .returned (.int .i64 v) ∧ Below w.heap.size w w' := by
  have H := Lib.hid h
  clear h
  go_enter Try.func14, Try.ntmps14
  go_wp2_with fail
  refine (two_at _ H.out).mono ?_
  rintro e w1 ⟨rfl, hb⟩
  go_wp2
  go_ret
  exact ⟨rfl, hb⟩

set_option maxRecDepth 100000 in
set_option maxHeartbeats 4000000 in
theorem rings_core (a0 a10 a11 a2 T A B C S1 S2 P1 P2 P3 U V Z X : Int) (w : World) (HT : Hid (kindV a0 = T)) (HA : Hid (wrappedV T a10 = A)) (HB : Hid (wrappedV T a11 = B)) (HC : Hid (wrappedV T a2 = C))
    (H1 : Hid (doesV 1 T false A B = (S1, 0))) (H2 : Hid (doesV 1 T false B A = (S1, 0))) (H3 : Hid (doesV 3 T false A B = (P1, 0))) (H4 : Hid (doesV 3 T false B A = (P1, 0))) (H5 : Hid (doesV 1 T false S1 C = (U, 0))) (H6 : Hid (doesV 1 T false B C = (S2, 0))) (H7 : Hid (doesV 1 T false A S2 = (U, 0))) (H8 : Hid (doesV 3 T false P1 C = (V, 0))) (H9 : Hid (doesV 3 T false B C = (P2, 0))) (H10 : Hid (doesV 3 T false A P2 = (V, 0))) (H11 : Hid (doesV 3 T false A S2 = (Z, 0))) (H12 : Hid (doesV 3 T false A C = (P3, 0))) (H13 : Hid (doesV 1 T false P1 P3 = (Z, 0))) (H14 : Hid (doesV 2 T false S1 B = (A, 0))) (H15 : Hid (doesV 8 T false A B = (X, 0))) (H16 : Hid (doesV 8 T false X B = (A, 0))) :
    Calls Try.prog 3 #[.int .i64 a0, .agg #[.int .i64 a10, .int .i64 a11], .int .i64 a2] w fun e w' => e = .returned (.bool true) ∧ Below w.heap.size w w' := by
  go_enter Try.func3, Try.ntmps3
  go_wp2_with fail
  refine (works_any _).mono ?_
  rintro e w1 ⟨rfl, hb⟩
  obtain ⟨hc1, hf1⟩ := bcell hb
  have hz1 : w.heap.size + 1 < w1.heap.size := by have := hb.size; simp at this; omega
  go_wp2_with fail
  refine (kind_any _ _).mono ?_
  rintro e w' ⟨rfl, rfl⟩
  rw [HT.out]
  go_wp2_with fail
  have q1 : w1.cell? ⟨w.heap.size, 0, none⟩ = some (.int .i64 a0) := by rw [hc1 _ _ (by simp; omega)]; simp [go_sem]
  have q2 : w1.cell? ⟨w.heap.size + 1, 0, none⟩ = some (.int .i64 a10) := by rw [hc1 _ _ (by simp)]; simp [go_sem]
  have q3 : w1.cell? ⟨w.heap.size + 1, 1, none⟩ = some (.int .i64 a11) := by rw [hc1 _ _ (by simp)]; simp [go_sem]
  have bT : Below w.heap.size w (w1.setCell ⟨w.heap.size, 0, none⟩ (.int .i64 T)) := (bnext (below_new2 _ _ _) hb).setCell (Nat.le_refl _) _
  have r1 : (w1.setCell ⟨w.heap.size, 0, none⟩ (.int .i64 T)).cell? ⟨w.heap.size, 0, none⟩ = some (.int .i64 T) := World.cell?_setCell_same _ _ _ q1
  have r2 : (w1.setCell ⟨w.heap.size, 0, none⟩ (.int .i64 T)).cell? ⟨w.heap.size + 1, 0, none⟩ = some (.int .i64 a10) := by rw [World.cell?_setCell_other _ _ _ _ (by simp)]; exact q2
  have r3 : (w1.setCell ⟨w.heap.size, 0, none⟩ (.int .i64 T)).cell? ⟨w.heap.size + 1, 1, none⟩ = some (.int .i64 a11) := by rw [World.cell?_setCell_other _ _ _ _ (by simp)]; exact q3
  have z1 : w.heap.size < (w1.setCell ⟨w.heap.size, 0, none⟩ (.int .i64 T)).heap.size := by simp [World.setCell]; omega
  generalize w1.setCell ⟨w.heap.size, 0, none⟩ (.int .i64 T) = W1 at bT r1 r2 r3 z1 ⊢
  clear q1 q2 q3 hc1 hf1 hz1 hb
  go_quiet ((go_at_call 13; (first | exact quiet_left (wrapped_at _ HA.out) | exact quiet_left (wrapped_at _ HB.out))))
  clear r2 r3
  go_wp2_with fail
  refine (wrapped_at _ HC.out).mono ?_
  rintro e w' ⟨rfl, rfl⟩
  have d0 := below_drewN bT nq
  have y0 : (W1.drewN nq).cell? ⟨w.heap.size, 0, none⟩ = some (.int .i64 T) := r1
  have z0 : w.heap.size < (W1.drewN nq).heap.size := z1
  clear r1 z1 bT
  go_wp2_with fail
  refine (ring_cl _ y0 H1.out).mono ?_
  rintro e v1 ⟨rfl, g1⟩
  have y1 := (g1.cell (p := ⟨w.heap.size, 0, none⟩) z0).trans y0
  have z1 := Nat.lt_of_lt_of_le z0 g1.size
  have d1 := bnext d0 g1
  clear y0 z0 d0 g1
  go_wp2_with fail
  refine (ring_cl _ y1 H2.out).mono ?_
  rintro e v2 ⟨rfl, g2⟩
  have y2 := (g2.cell (p := ⟨w.heap.size, 0, none⟩) z1).trans y1
  have z2 := Nat.lt_of_lt_of_le z1 g2.size
  have d2 := bnext d1 g2
  clear y1 z1 d1 g2
  go_wp2_with fail
  refine (ring_cl _ y2 H3.out).mono ?_
  rintro e v3 ⟨rfl, g3⟩
  have y3 := (g3.cell (p := ⟨w.heap.size, 0, none⟩) z2).trans y2
  have z3 := Nat.lt_of_lt_of_le z2 g3.size
  have d3 := bnext d2 g3
  clear y2 z2 d2 g3
  go_wp2_with fail
  refine (ring_cl _ y3 H4.out).mono ?_
  rintro e v4 ⟨rfl, g4⟩
  have y4 := (g4.cell (p := ⟨w.heap.size, 0, none⟩) z3).trans y3
  have z4 := Nat.lt_of_lt_of_le z3 g4.size
  have d4 := bnext d3 g4
  clear y3 z3 d3 g4
  go_wp2_with fail
  refine (ring_cl _ y4 H1.out).mono ?_
  rintro e v5 ⟨rfl, g5⟩
  have y5 := (g5.cell (p := ⟨w.heap.size, 0, none⟩) z4).trans y4
  have z5 := Nat.lt_of_lt_of_le z4 g5.size
  have d5 := bnext d4 g5
  clear y4 z4 d4 g5
  go_wp2_with fail
  refine (ring_cl _ y5 H5.out).mono ?_
  rintro e v6 ⟨rfl, g6⟩
  have y6 := (g6.cell (p := ⟨w.heap.size, 0, none⟩) z5).trans y5
  have z6 := Nat.lt_of_lt_of_le z5 g6.size
  have d6 := bnext d5 g6
  clear y5 z5 d5 g6
  go_wp2_with fail
  refine (ring_cl _ y6 H6.out).mono ?_
  rintro e v7 ⟨rfl, g7⟩
  have y7 := (g7.cell (p := ⟨w.heap.size, 0, none⟩) z6).trans y6
  have z7 := Nat.lt_of_lt_of_le z6 g7.size
  have d7 := bnext d6 g7
  clear y6 z6 d6 g7
  go_wp2_with fail
  refine (ring_cl _ y7 H7.out).mono ?_
  rintro e v8 ⟨rfl, g8⟩
  have y8 := (g8.cell (p := ⟨w.heap.size, 0, none⟩) z7).trans y7
  have z8 := Nat.lt_of_lt_of_le z7 g8.size
  have d8 := bnext d7 g8
  clear y7 z7 d7 g8
  go_wp2_with fail
  refine (ring_cl _ y8 H3.out).mono ?_
  rintro e v9 ⟨rfl, g9⟩
  have y9 := (g9.cell (p := ⟨w.heap.size, 0, none⟩) z8).trans y8
  have z9 := Nat.lt_of_lt_of_le z8 g9.size
  have d9 := bnext d8 g9
  clear y8 z8 d8 g9
  go_wp2_with fail
  refine (ring_cl _ y9 H8.out).mono ?_
  rintro e v10 ⟨rfl, g10⟩
  have y10 := (g10.cell (p := ⟨w.heap.size, 0, none⟩) z9).trans y9
  have z10 := Nat.lt_of_lt_of_le z9 g10.size
  have d10 := bnext d9 g10
  clear y9 z9 d9 g10
  go_wp2_with fail
  refine (ring_cl _ y10 H9.out).mono ?_
  rintro e v11 ⟨rfl, g11⟩
  have y11 := (g11.cell (p := ⟨w.heap.size, 0, none⟩) z10).trans y10
  have z11 := Nat.lt_of_lt_of_le z10 g11.size
  have d11 := bnext d10 g11
  clear y10 z10 d10 g11
  go_wp2_with fail
  refine (ring_cl _ y11 H10.out).mono ?_
  rintro e v12 ⟨rfl, g12⟩
  have y12 := (g12.cell (p := ⟨w.heap.size, 0, none⟩) z11).trans y11
  have z12 := Nat.lt_of_lt_of_le z11 g12.size
  have d12 := bnext d11 g12
  clear y11 z11 d11 g12
  go_wp2_with fail
  refine (ring_cl _ y12 H6.out).mono ?_
  rintro e v13 ⟨rfl, g13⟩
  have y13 := (g13.cell (p := ⟨w.heap.size, 0, none⟩) z12).trans y12
  have z13 := Nat.lt_of_lt_of_le z12 g13.size
  have d13 := bnext d12 g13
  clear y12 z12 d12 g13
  go_wp2_with fail
  refine (ring_cl _ y13 H11.out).mono ?_
  rintro e v14 ⟨rfl, g14⟩
  have y14 := (g14.cell (p := ⟨w.heap.size, 0, none⟩) z13).trans y13
  have z14 := Nat.lt_of_lt_of_le z13 g14.size
  have d14 := bnext d13 g14
  clear y13 z13 d13 g14
  go_wp2_with fail
  refine (ring_cl _ y14 H3.out).mono ?_
  rintro e v15 ⟨rfl, g15⟩
  have y15 := (g15.cell (p := ⟨w.heap.size, 0, none⟩) z14).trans y14
  have z15 := Nat.lt_of_lt_of_le z14 g15.size
  have d15 := bnext d14 g15
  clear y14 z14 d14 g15
  go_wp2_with fail
  refine (ring_cl _ y15 H12.out).mono ?_
  rintro e v16 ⟨rfl, g16⟩
  have y16 := (g16.cell (p := ⟨w.heap.size, 0, none⟩) z15).trans y15
  have z16 := Nat.lt_of_lt_of_le z15 g16.size
  have d16 := bnext d15 g16
  clear y15 z15 d15 g16
  go_wp2_with fail
  refine (ring_cl _ y16 H13.out).mono ?_
  rintro e v17 ⟨rfl, g17⟩
  have y17 := (g17.cell (p := ⟨w.heap.size, 0, none⟩) z16).trans y16
  have z17 := Nat.lt_of_lt_of_le z16 g17.size
  have d17 := bnext d16 g17
  clear y16 z16 d16 g17
  go_wp2_with fail
  refine (ring_cl _ y17 H1.out).mono ?_
  rintro e v18 ⟨rfl, g18⟩
  have y18 := (g18.cell (p := ⟨w.heap.size, 0, none⟩) z17).trans y17
  have z18 := Nat.lt_of_lt_of_le z17 g18.size
  have d18 := bnext d17 g18
  clear y17 z17 d17 g18
  go_wp2_with fail
  refine (ring_cl _ y18 H14.out).mono ?_
  rintro e v19 ⟨rfl, g19⟩
  have y19 := (g19.cell (p := ⟨w.heap.size, 0, none⟩) z18).trans y18
  have z19 := Nat.lt_of_lt_of_le z18 g19.size
  have d19 := bnext d18 g19
  clear y18 z18 d18 g19
  go_wp2_with fail
  refine (ring_cl _ y19 H15.out).mono ?_
  rintro e v20 ⟨rfl, g20⟩
  have y20 := (g20.cell (p := ⟨w.heap.size, 0, none⟩) z19).trans y19
  have z20 := Nat.lt_of_lt_of_le z19 g20.size
  have d20 := bnext d19 g20
  clear y19 z19 d19 g20
  go_wp2_with fail
  refine (ring_cl _ y20 H16.out).mono ?_
  rintro e v21 ⟨rfl, g21⟩
  have y21 := (g21.cell (p := ⟨w.heap.size, 0, none⟩) z20).trans y20
  have z21 := Nat.lt_of_lt_of_le z20 g21.size
  have d21 := bnext d20 g21
  clear y20 z20 d20 g21
  go_wp2
  go_ret
  exact ⟨rfl, d21⟩

theorem rings_walk (a0 a10 a11 a2 : Int) (w0 : (Lit.int .i64 a0).wf = true) (w10 : (Lit.int .i64 a10).wf = true) (w11 : (Lit.int .i64 a11).wf = true) (w2 : (Lit.int .i64 a2).wf = true) (w : World) :
    Calls Try.prog 3 #[.int .i64 a0, .agg #[.int .i64 a10, .int .i64 a11], .int .i64 a2] w fun e w' => e = .returned (.bool true) ∧ Below w.heap.size w w' := by
  have hk := kind_or a0
  obtain ⟨T, hT⟩ : ∃ T, kindV a0 = T := ⟨_, rfl⟩
  rw [hT] at hk
  obtain ⟨A, hA⟩ : ∃ A, wrappedV T a10 = A := ⟨_, rfl⟩
  obtain ⟨B, hB⟩ : ∃ B, wrappedV T a11 = B := ⟨_, rfl⟩
  obtain ⟨C, hC⟩ : ∃ C, wrappedV T a2 = C := ⟨_, rfl⟩
  have fA : fitsB T A = true := by rw [← hA]; exact wrapped_fits hk _
  have fB : fitsB T B = true := by rw [← hB]; exact wrapped_fits hk _
  have fC : fitsB T C = true := by rw [← hC]; exact wrapped_fits hk _
  have fw : ∀ n, fitsB T (wrapT T n) = true := wrap_fits (known_or hk)
  refine rings_core a0 a10 a11 a2 T A B C (wrapT T (A + B)) (wrapT T (B + C)) (wrapT T (A * B)) (wrapT T (B * C)) (wrapT T (A * C)) (wrapT T (A + B + C)) (wrapT T (A * B * C)) (wrapT T (A * (B + C))) (wrapT T (bits .xor .i64 A B)) w hT hA hB hC
    (does_1 hk fA fB) ?_ (does_3 hk fA fB) ?_ ?_ (does_1 hk fB fC) ?_ ?_ (does_3 hk fB fC) ?_ ?_ (does_3 hk fA fC) ?_ ?_ (does_8 hk fA fB) ?_
  · show doesV 1 T false B A = _
    rw [does_1 hk fB fA, Int.add_comm]
  · show doesV 3 T false B A = _
    rw [does_3 hk fB fA, Int.mul_comm]
  · show doesV 1 T false _ _ = _
    rw [does_1 hk (fw _) fC, wrap_sum T _ _ hk]
  · show doesV 1 T false _ _ = _
    rw [does_1 hk fA (fw _), wrap_sum' T _ _ hk, Int.add_assoc]
  · show doesV 3 T false _ _ = _
    rw [does_3 hk (fw _) fC, wrap_mul T _ _ hk]
  · show doesV 3 T false _ _ = _
    rw [does_3 hk fA (fw _), wrap_mul' T _ _ hk, Int.mul_assoc]
  · show doesV 3 T false _ _ = _
    rw [does_3 hk fA (fw _), wrap_mul' T _ _ hk]
  · show doesV 1 T false _ _ = _
    rw [does_1 hk (fw _) (fw _), wrap_sum T _ _ hk, wrap_sum' T _ _ hk, Int.mul_add]
  · show doesV 2 T false _ _ = _
    rw [does_2 hk (fw _) fB, show wrapT T (A + B) - B = wrapT T (A + B) + -B from rfl, wrap_sum T _ _ hk, show A + B + -B = A from by omega, fits_wrap fA]
  · show doesV 8 T false _ _ = _
    rw [does_8 hk (fw _) fB, xor_back B hk fA]

end Go.Proofs.Ytjdoeehmnfbepaa.Num
