/-
  The walks of NumTwos and NumOnes.
-/
import Derived.Test.YtjdoeehmnfbepaaNumZ
import Derived.Test.YtjdoeehmnfbepaaNumW
namespace Go.Proofs.Ytjdoeehmnfbepaa.Num
open Go.RowKit
set_option linter.unusedVariables false

theorem bounds64 {a : Int} (h : (Lit.int .i64 a).wf = true) : -9223372036854775808 ≤ a ∧ a ≤ 9223372036854775807 := by
  simp [Lit.wf, IntKind.min, IntKind.max, IntKind.signed, IntKind.bits] at h
  omega
theorem rtwo_at {n t a b v e : Int} (w : World) (h : doesV n t false a b = (v, e)) : Calls Try.prog 18 #[.int .i64 n, .int .i64 t, .int .i64 a, .int .i64 b] w fun x w' => x = .returned (.tuple #[.int .i64 v, .int .i64 e]) ∧ w = w' :=
  (rtwo_any n t a b w).mono fun x w' hx => by rw [h] at hx; exact hx
theorem rone_at {n t a v e : Int} (h64 : -9223372036854775808 ≤ a ∧ a ≤ 9223372036854775807) (w : World) (h : doesV n t true a a = (v, e)) : Calls Try.prog 22 #[.int .i64 n, .int .i64 t, .int .i64 a] w fun x w' => x = .returned (.tuple #[.int .i64 v, .int .i64 e]) ∧ w = w' :=
  (rone_any n t a h64 w).mono fun x w' hx => by rw [h] at hx; exact hx
theorem result_at {n t v e : Int} (w : World) (h : resultV n t = (v, e)) : Calls Try.prog 19 #[.int .i64 n, .int .i64 t] w fun x w' => x = .returned (.tuple #[.int .i64 v, .int .i64 e]) ∧ Below w.heap.size w w' :=
  (result_any n t w).mono fun x w' hx => by rw [h] at hx; exact hx
theorem rresult_at {n t v e : Int} (w : World) (h : resultV n t = (v, e)) : Calls Try.prog 20 #[.int .i64 n, .int .i64 t] w fun x w' => x = .returned (.tuple #[.int .i64 v, .int .i64 e]) ∧ w = w' :=
  (rresult_any n t w).mono fun x w' hx => by rw [h] at hx; exact hx
theorem rconv_at {s t n v e : Int} (w : World) (h : convV s t n = (v, e)) : Calls Try.prog 26 #[.int .i64 s, .int .i64 t, .int .i64 n] w fun x w' => x = .returned (.tuple #[.int .i64 v, .int .i64 e]) ∧ w = w' :=
  (rconv_any s t n w).mono fun _ _ hx => by rw [h] at hx; exact hx
theorem rfits_at {t n : Int} {b : Bool} (w : World) (h : fitsB t n = b) : Calls Try.prog 28 #[.int .i64 t, .int .i64 n] w fun x w' => x = .returned (.bool b) ∧ w = w' :=
  (rfits_any t n w).mono fun _ _ hx => by rw [h] at hx; exact hx
theorem wrapE_at {t n v e : Int} (w : World) (h1 : (if knownB t = true then wrapT t n else 0) = v) (h2 : (if knownB t = true then (0 : Int) else 40) = e) : Calls Try.prog 23 #[.int .i64 t, .int .i64 n] w fun x w' => x = .returned (.tuple #[.int .i64 v, .int .i64 e]) ∧ w = w' :=
  (wrapE_any t n w).mono fun _ _ hx => by rw [h1, h2] at hx; exact hx
theorem rwrapE_at {t n v e : Int} (w : World) (h1 : (if knownB t = true then wrapT t n else 0) = v) (h2 : (if knownB t = true then (0 : Int) else 40) = e) : Calls Try.prog 24 #[.int .i64 t, .int .i64 n] w fun x w' => x = .returned (.tuple #[.int .i64 v, .int .i64 e]) ∧ w = w' :=
  (rwrapE_any t n w).mono fun _ _ hx => by rw [h1, h2] at hx; exact hx

set_option maxRecDepth 100000 in
set_option maxHeartbeats 2000000 in
theorem twos_walk (a0 a1 a20 a21 : Int) (w0 : (Lit.int .i64 a0).wf = true) (w1 : (Lit.int .i64 a1).wf = true) (w20 : (Lit.int .i64 a20).wf = true) (w21 : (Lit.int .i64 a21).wf = true) (w : World) :
    Calls Try.prog 7 #[.int .i64 a0, .int .i64 a1, .agg #[.int .i64 a20, .int .i64 a21]] w fun e w' => e = .returned (.bool true) ∧ Below w.heap.size w w' := by
  clear w0 w1 w20 w21
  obtain ⟨V, E, hV⟩ : ∃ V E, doesV a0 a1 false a20 a21 = (V, E) := ⟨_, _, rfl⟩
  obtain ⟨K, G, hK⟩ : ∃ K G, resultV a0 a1 = (K, G) := ⟨_, _, rfl⟩
  have H := Lib.hid hV; have HK := Lib.hid hK
  clear hV hK
  go_enter Try.func7, Try.ntmps7
  go_wp2_with fail
  refine (two_at _ H.out).mono ?_
  rintro e w1 ⟨rfl, hb⟩
  obtain ⟨hc1, hf1⟩ := bcell hb
  have hz1 : w.heap.size < w1.heap.size := by have := hb.size; simp at this; omega
  go_wp2_with fail
  refine (rtwo_at _ H.out).mono ?_
  rintro e w' ⟨rfl, rfl⟩
  go_wp2_with fail
  refine (result_at _ HK.out).mono ?_
  rintro e w2 ⟨rfl, hb2⟩
  go_wp2_with fail
  refine (rresult_at _ HK.out).mono ?_
  rintro e w' ⟨rfl, rfl⟩
  go_wp2_with fail
  refine (names_any _).mono ?_
  rintro e w' ⟨rfl, rfl⟩
  go_wp2_with fail
  refine (works_any _).mono ?_
  rintro e w3 ⟨rfl, hb3⟩
  go_wp2
  go_ret
  exact ⟨rfl, bnext (bnext (bnext (below_new1 _ _) hb) hb2) hb3⟩

set_option maxRecDepth 100000 in
set_option maxHeartbeats 2000000 in
theorem ones_walk (a0 a1 a2 : Int) (w0 : (Lit.int .i64 a0).wf = true) (w1 : (Lit.int .i64 a1).wf = true) (w2 : (Lit.int .i64 a2).wf = true) (w : World) :
    Calls Try.prog 8 #[.int .i64 a0, .int .i64 a1, .int .i64 a2] w fun e w' => e = .returned (.bool true) ∧ Below w.heap.size w w' := by
  have h64 : -9223372036854775808 ≤ a2 ∧ a2 ≤ 9223372036854775807 := bounds64 w2
  clear w0 w1 w2
  obtain ⟨V, E, hV⟩ : ∃ V E, doesV a0 a1 true a2 a2 = (V, E) := ⟨_, _, rfl⟩
  obtain ⟨K, hK⟩ : ∃ K, (if knownB a1 = true then wrapT a1 a2 else 0) = K := ⟨_, rfl⟩
  obtain ⟨G, hG⟩ : ∃ G, (if knownB a1 = true then (0 : Int) else 40) = G := ⟨_, rfl⟩
  obtain ⟨X, I, hX⟩ : ∃ X I, convV a1 a0 a2 = (X, I) := ⟨_, _, rfl⟩
  obtain ⟨b, hB⟩ : ∃ b, fitsB a1 a2 = b := ⟨_, rfl⟩
  have H := Lib.hid hV; have HK := Lib.hid hK; have HG := Lib.hid hG; have HX := Lib.hid hX; have HB := Lib.hid hB; have H64 := Lib.hid h64
  clear hV hK hG hX hB h64
  go_enter Try.func8, Try.ntmps8
  go_wp2_with fail
  refine (one_at _ H.out).mono ?_
  rintro e w1 ⟨rfl, hb⟩
  go_wp2_with fail
  refine (rone_at H64.out _ H.out).mono ?_
  rintro e w' ⟨rfl, rfl⟩
  go_wp2_with fail
  refine (wrapE_at _ HK.out HG.out).mono ?_
  rintro e w' ⟨rfl, rfl⟩
  go_wp2_with fail
  refine (rwrapE_at _ HK.out HG.out).mono ?_
  rintro e w' ⟨rfl, rfl⟩
  go_wp2_with fail
  refine (conv_at _ HX.out).mono ?_
  rintro e w' ⟨rfl, rfl⟩
  go_wp2_with fail
  refine (rconv_at _ HX.out).mono ?_
  rintro e w' ⟨rfl, rfl⟩
  go_wp2_with fail
  refine (fits_at _ HB.out).mono ?_
  rintro e w' ⟨rfl, rfl⟩
  go_wp2_with fail
  refine (rfits_at _ HB.out).mono ?_
  rintro e w' ⟨rfl, rfl⟩
  go_wp2_with fail
  refine (works_any _).mono ?_
  rintro e w2 ⟨rfl, hb2⟩
  go_wp2
  go_ret
  exact ⟨rfl, bnext hb hb2⟩

end Go.Proofs.Ytjdoeehmnfbepaa.Num
