/-
  The walks of layer 12: a coder's count, and (cells).do of QUAD, whatever the circle holds.
-/
import Derived.Test.YtefflkmegodafaaDoorBlockKeepsBlQd
namespace Go.Proofs.YtefflkmegodafaaDoor.PBlockKeeps
open Go.RowKit Go.Proofs.YtefflkmegodafaaDoorW.PrintWords Go.Proofs.YtefflkmegodafaaDoorW.PrintLast Go.Proofs.YtefflkmegodafaaDoorW.PrintMore
attribute [local go_sem] Oper.semAt_some

theorem fits3 {n : Int} (n0 : -2147483648 ≤ n) (n1 : n ≤ 2147483647) : Num.fitsB 3 n = true := by
  have e : wrap32 n = n := by unfold wrap32; omega
  simp [Num.fitsB, Num.knownB, Num.wrapT, e]
theorem add_dint {n s : Int} (n0 : -2147483648 ≤ n) (n1 : n ≤ 2147483647) (s0 : -1 ≤ s) (s1 : s ≤ 1) : Num.doesV 1 3 false n s = (wrap32 (n + s), 0) := by
  have e : wrap64 (n + s) = n + s := by unfold wrap64; omega
  unfold Num.doesV
  rw [if_neg (by simp), if_neg (by simp [Num.opOne]), if_neg (by decide), fits3 n0 n1, fits3 (by omega) (by omega), if_neg (by simp), if_neg (by simp), if_neg (by simp), if_neg (by simp [Num.opTruth])]
  simp [Num.opV, Num.wrapT, e]
theorem two_dint {n s : Int} (n0 : -2147483648 ≤ n) (n1 : n ≤ 2147483647) (s0 : -1 ≤ s) (s1 : s ≤ 1) (w : World) : Calls Tryd.prog 54 #[.int .i64 1, .int .i64 3, .int .i64 n, .int .i64 s] w fun e w' => e = .returned (.tuple #[.int .i64 (wrap32 (n + s)), .int .i64 0]) ∧ Below w.heap.size w w' := by
  have h := Num.two_any 1 3 n s w
  rw [add_dint n0 n1 s0 s1] at h
  exact h
theorem At.circ {w0 w W : World} {g cap n B : Nat} {now : Int} {l : List Int} {r0 i0 r1 i1 r2 i2 r3 i3 : Nat} (h : At w0 w g cap n B now l W) (hC : Circ r0 i0 r1 i1 r2 i2 r3 i3 w0) : Circ r0 i0 r1 i1 r2 i2 r3 i3 W := by
  obtain ⟨hz, h0, h1, h2, h3⟩ := hC
  have hb := h.1.2.2.1
  exact ⟨Nat.lt_of_lt_of_le hz hb.size, (hb.cell (p := ⟨0, 0, none⟩) hz).trans h0, (hb.cell (p := ⟨0, 1, none⟩) hz).trans h1, (hb.cell (p := ⟨0, 2, none⟩) hz).trans h2, (hb.cell (p := ⟨0, 3, none⟩) hz).trans h3⟩

set_option maxRecDepth 100000 in
set_option maxHeartbeats 2000000 in
theorem kod_back {w0 w : World} {g cap : Nat} {a b d e f : Int} (now : Int) (h : Has w0 w g cap 6 [a, b, 1, d, e, f] w) (P : Int) (ba bb : Bool) (HA : Hid ((a == 1) = ba)) (HB : Hid ((b == 1) = bb)) (HP : Hid (placeV ba bb = P)) (p0 : 0 ≤ P) (p1 : P ≤ 3) :
    Calls Tryd.prog 37 #[.agg #[.slice (some ⟨g, 0, none⟩) 6 cap, .int .i64 now]] w fun x w' => x = .returned (.tuple #[]) ∧ Has w0 w g cap 6 [a, b, 1, 0, 0, P + 1] w' := by
  have A0 := At.enter h now 70
  obtain ⟨z0, z1⟩ := A0.box
  clear h
  go_enter Tryd.func37, Tryd.ntmps37
  go_wp2_with fail
  refine start_ (n := 8) (S := fun w' => (w'.cell? ⟨w.heap.size, 0, none⟩ = some (.slice (some ⟨g, 0, none⟩) 6 cap) ∧ w'.cell? ⟨w.heap.size, 1, none⟩ = some (.int .i64 now))) (ds := []) #[false, false, false, false, false, false, false, false] (by kernel_rfl) rfl rfl A0.drew.box (fun hHeld => ?_)
  have A1 := A0.drew
  generalize World.drew _ = w1 at A1 hHeld ⊢
  clear A0 z0 z1
  refine pure_ (i := 0) (N := some 5) (v := ?_) (a' := ?_) #[true, false, false, false, false, false, false, false] rfl rfl (by kernel_rfl) (fun _ _ _ h => h) (Or.inl ⟨by rfl, ?_⟩) ?_ ?_
  rotate_left
  · intro w'
    go_simp
    with_reducible rfl
  rotate_left
  · simp only [Act.put, List.setIfInBounds_toArray, List.set_cons_zero, List.set_cons_succ]
    rfl
  refine take_ (i := 1) (N := some 6) (v := ?_) (a' := ?_) #[true, true, false, false, false, false, false, false] rfl rfl (by kernel_rfl) (fun _ _ _ h => h) (Or.inl ⟨by rfl, ?_⟩) hHeld ?_ ?_
  rotate_left
  · rintro w' ⟨y0, y1⟩
    go_simp
    with_reducible rfl
  rotate_left
  · simp only [Act.put, List.setIfInBounds_toArray, List.set_cons_zero, List.set_cons_succ]
    rfl
  refine pure_ (i := 3) (N := some 8) (v := ?_) (a' := ?_) #[true, true, false, true, false, false, false, false] rfl rfl (by kernel_rfl) (fun _ _ _ h => h) (Or.inl ⟨by rfl, ?_⟩) ?_ ?_
  rotate_left
  · intro w'
    go_simp
    with_reducible rfl
  rotate_left
  · simp only [Act.put, List.setIfInBounds_toArray, List.set_cons_zero, List.set_cons_succ]
    rfl
  refine take_ (i := 4) (N := some 9) (v := ?_) (a' := ?_) #[true, true, false, true, true, false, false, false] rfl rfl (by kernel_rfl) (fun _ _ _ h => h) (Or.inl ⟨by rfl, ?_⟩) hHeld ?_ ?_
  rotate_left
  · rintro w' ⟨y0, y1⟩
    go_simp
    with_reducible rfl
  rotate_left
  · simp only [Act.put, List.setIfInBounds_toArray, List.set_cons_zero, List.set_cons_succ]
    rfl
  refine one_ (i := 2) (N := some 7) #[true, true, true, true, true, false, false, false] rfl rfl (by kernel_rfl) (by decide) (fun K hK => ?_)
  refine goes_ Tryd.func36 (by kernel_rfl) rfl #[.agg #[.slice (some ⟨g, 0, none⟩) 6 cap, .int .i64 now], .int .i64 0] (by rfl) rfl rfl (by first | (go_simp; done) | simp [Act.eval]) ?_
  refine (A1.is 0 (by omega) ba HA.out).mono ?_
  rintro e2 w2 ⟨rfl, A2⟩
  have hS := A2.box
  clear hHeld A1
  refine ⟨_, rfl, hK.out _ _ hS (fun hHeld => ?_)⟩
  clear hK K
  refine norm_ (a' := ?_) ?_ ?_
  rotate_left
  · show Act.put _ (some 7) _ = _
    simp only [Act.put, List.setIfInBounds_toArray, List.set_cons_zero, List.set_cons_succ]
    rfl
  refine one_ (i := 5) (N := some 10) #[true, true, true, true, true, true, false, false] rfl rfl (by kernel_rfl) (by decide) (fun K hK => ?_)
  refine goes_ Tryd.func36 (by kernel_rfl) rfl #[.agg #[.slice (some ⟨g, 0, none⟩) 6 cap, .int .i64 now], .int .i64 1] (by rfl) rfl rfl (by first | (go_simp; done) | simp [Act.eval]) ?_
  refine (A2.is 1 (by omega) bb HB.out).mono ?_
  rintro e3 w3 ⟨rfl, A3⟩
  have hS := A3.box
  clear hHeld A2
  refine ⟨_, rfl, hK.out _ _ hS (fun hHeld => ?_)⟩
  clear hK K
  refine norm_ (a' := ?_) ?_ ?_
  rotate_left
  · show Act.put _ (some 10) _ = _
    simp only [Act.put, List.setIfInBounds_toArray, List.set_cons_zero, List.set_cons_succ]
    rfl
  refine one_ (i := 6) (N := some 11) #[true, true, true, true, true, true, true, false] rfl rfl (by kernel_rfl) (by decide) (fun K hK => ?_)
  refine goes_ Tryd.func52 (by kernel_rfl) rfl #[.bool ba, .bool bb] (by rfl) rfl rfl (by first | (go_simp; done) | simp [Act.eval]) ?_
  refine (place_any ba bb _).mono ?_
  rintro e4 w4 ⟨rfl, hb⟩
  rw [HP.out]
  have A4 := A3.below hb
  have hS := A4.box
  clear hHeld A3 hb
  refine ⟨_, rfl, hK.out _ _ hS (fun hHeld => ?_)⟩
  clear hK K
  refine norm_ (a' := ?_) ?_ ?_
  rotate_left
  · show Act.put _ (some 11) _ = _
    simp only [Act.put, List.setIfInBounds_toArray, List.set_cons_zero, List.set_cons_succ]
    rfl
  refine pure_ (i := 7) (N := some 2) (v := ?_) (a' := ?_) #[true, true, true, true, true, true, true, true] rfl rfl (by kernel_rfl) (fun _ _ _ h => h) (Or.inl ⟨by rfl, ?_⟩) ?_ ?_
  rotate_left
  · intro w'
    go_simp
    with_reducible rfl
  rotate_left
  · simp only [Act.put, List.setIfInBounds_toArray, List.set_cons_zero, List.set_cons_succ]
    rfl
  refine done_ (by kernel_rfl) ?_
  obtain ⟨d0, d1⟩ := A4.box
  go_wp2_with fail
  refine (A4.is 2 (by omega) true (by rfl)).mono ?_
  rintro e5 w5 ⟨rfl, A5⟩
  clear A4 d0 d1
  obtain ⟨d0, d1⟩ := A5.box
  go_wp2_with fail
  refine start_ (n := 10) (S := fun w' => (w'.cell? ⟨w.heap.size, 0, none⟩ = some (.slice (some ⟨g, 0, none⟩) 6 cap) ∧ w'.cell? ⟨w.heap.size, 1, none⟩ = some (.int .i64 now))) (ds := []) #[false, false, false, false, false, false, false, false, false, false] (by kernel_rfl) rfl rfl A5.drew.box (fun hHeld => ?_)
  have A6 := A5.drew
  generalize World.drew _ = w6 at A6 hHeld ⊢
  clear A5 d0 d1
  obtain ⟨x3, y3⟩ := A6.cell 3 (by omega)
  refine pure_ (i := 0) (N := some 15) (v := ?_) (a' := ?_) #[true, false, false, false, false, false, false, false, false, false] rfl rfl (by kernel_rfl) (fun _ _ _ h => h) (Or.inl ⟨by rfl, ?_⟩) ?_ ?_
  rotate_left
  · intro w'
    go_simp
    with_reducible rfl
  rotate_left
  · simp only [Act.put, List.setIfInBounds_toArray, List.set_cons_zero, List.set_cons_succ]
    rfl
  refine pure_ (i := 1) (N := some 16) (v := ?_) (a' := ?_) #[true, true, false, false, false, false, false, false, false, false] rfl rfl (by kernel_rfl) (fun _ _ _ h => h) (Or.inl ⟨by rfl, ?_⟩) ?_ ?_
  rotate_left
  · intro w'
    go_simp
    with_reducible rfl
  rotate_left
  · simp only [Act.put, List.setIfInBounds_toArray, List.set_cons_zero, List.set_cons_succ]
    rfl
  refine take_ (i := 2) (N := some 17) (v := ?_) (a' := ?_) #[true, true, true, false, false, false, false, false, false, false] rfl rfl (by kernel_rfl) (fun _ _ _ h => h) (Or.inl ⟨by rfl, ?_⟩) hHeld ?_ ?_
  rotate_left
  · rintro w' ⟨y0, y1⟩
    go_simp
    with_reducible rfl
  rotate_left
  · simp only [Act.put, List.setIfInBounds_toArray, List.set_cons_zero, List.set_cons_succ]
    rfl
  refine pure_ (i := 3) (N := some 18) (v := ?_) (a' := ?_) #[true, true, true, true, false, false, false, false, false, false] rfl rfl (by kernel_rfl) (fun _ _ _ h => h) (Or.inl ⟨by rfl, ?_⟩) ?_ ?_
  rotate_left
  · intro w'
    go_simp
    with_reducible rfl
  rotate_left
  · simp only [Act.put, List.setIfInBounds_toArray, List.set_cons_zero, List.set_cons_succ]
    rfl
  refine pure_ (i := 4) (N := some 19) (v := ?_) (a' := ?_) #[true, true, true, true, true, false, false, false, false, false] rfl rfl (by kernel_rfl) (fun _ _ _ h => h) (Or.inl ⟨by rfl, ?_⟩) ?_ ?_
  rotate_left
  · intro w'
    go_simp
    with_reducible rfl
  rotate_left
  · simp only [Act.put, List.setIfInBounds_toArray, List.set_cons_zero, List.set_cons_succ]
    rfl
  refine take_ (i := 5) (N := some 20) (v := ?_) (a' := ?_) #[true, true, true, true, true, true, false, false, false, false] rfl rfl (by kernel_rfl) (fun _ _ _ h => h) (Or.inl ⟨by rfl, ?_⟩) hHeld ?_ ?_
  rotate_left
  · rintro w' ⟨y0, y1⟩
    go_simp
    with_reducible rfl
  rotate_left
  · simp only [Act.put, List.setIfInBounds_toArray, List.set_cons_zero, List.set_cons_succ]
    rfl
  refine pure_ (i := 6) (N := some 21) (v := ?_) (a' := ?_) #[true, true, true, true, true, true, true, false, false, false] rfl rfl (by kernel_rfl) (fun _ _ _ h => h) (Or.inl ⟨by rfl, ?_⟩) ?_ ?_
  rotate_left
  · intro w'
    go_simp
    with_reducible rfl
  rotate_left
  · simp only [Act.put, List.setIfInBounds_toArray, List.set_cons_zero, List.set_cons_succ]
    rfl
  refine one_ (i := 7) (N := none) #[true, true, true, true, true, true, true, true, false, false] rfl rfl (by kernel_rfl) (by decide) (fun K hK => ?_)
  refine skip_ (w1 := ?_) (by rfl) rfl ?_ ?_
  rotate_left
  · go_simp
    rfl
  have A7 := A6.put 3 0
  have hS := A7.box
  clear hHeld A6 x3 y3
  obtain ⟨x4, y4⟩ := A7.cell 4 (by omega)
  refine hK.out _ _ hS (fun hHeld => ?_)
  clear hK K
  refine pure_ (i := 8) (N := some 22) (v := ?_) (a' := ?_) #[true, true, true, true, true, true, true, true, true, false] rfl rfl (by kernel_rfl) (fun _ _ _ h => h) (Or.inl ⟨by rfl, ?_⟩) ?_ ?_
  rotate_left
  · intro w'
    go_simp
    with_reducible rfl
  rotate_left
  · simp only [Act.put, List.setIfInBounds_toArray, List.set_cons_zero, List.set_cons_succ]
    rfl
  refine one_ (i := 9) (N := none) #[true, true, true, true, true, true, true, true, true, true] rfl rfl (by kernel_rfl) (by decide) (fun K hK => ?_)
  refine skip_ (w1 := ?_) (by rfl) rfl ?_ ?_
  rotate_left
  · go_simp
    rfl
  have A8 := A7.put 4 0
  have hS := A8.box
  clear hHeld A7 x4 y4
  refine hK.out _ _ hS (fun hHeld => ?_)
  clear hK K
  refine done_ (by kernel_rfl) ?_
  obtain ⟨d0, d1⟩ := A8.box
  obtain ⟨x5, y5⟩ := A8.cell 5 (by omega)
  have A9 := A8.put 5 (P + 1)
  clear A8 HA HB HP
  go_wp2
  go_end0
  exact ⟨rfl, A9.has⟩

set_option maxRecDepth 100000 in
set_option maxHeartbeats 2000000 in
theorem kod_go {w0 w : World} {g cap : Nat} {a b d e f : Int} (now : Int) (h : Has w0 w g cap 6 [a, b, 0, d, e, f] w) (P : Int) (ba bb : Bool) (HA : Hid ((a == 1) = ba)) (HB : Hid ((b == 1) = bb)) (HP : Hid (placeV ba bb = P)) (p0 : 0 ≤ P) (p1 : P ≤ 3) (n : Int) (n0 : -1 ≤ n) (n1 : n ≤ 1) (c0 : -2147483648 ≤ d) (c1 : d ≤ 2147483647) (l0 : -32768 ≤ f) (l1 : f ≤ 32767) {r0 i0 r1 i1 r2 i2 r3 i3 : Nat} (HC : Hid (Circ r0 i0 r1 i1 r2 i2 r3 i3 w0)) (HS : Hid (∀ w, Circ r0 i0 r1 i1 r2 i2 r3 i3 w → Calls Tryd.prog 53 #[.int .i64 (f - 1), .int .i64 P] w fun x w' => x = .returned (.tuple #[.int .i64 n, .int .i64 0]) ∧ Below w.heap.size w w')) :
    Calls Tryd.prog 37 #[.agg #[.slice (some ⟨g, 0, none⟩) 6 cap, .int .i64 now]] w fun x w' => x = .returned (.tuple #[]) ∧ Has w0 w g cap 6 [a, b, 0, wrap32 (d + n), e, P + 1] w' := by
  have A0 := At.enter h now 70
  obtain ⟨z0, z1⟩ := A0.box
  clear h
  go_enter Tryd.func37, Tryd.ntmps37
  go_wp2_with fail
  refine start_ (n := 8) (S := fun w' => (w'.cell? ⟨w.heap.size, 0, none⟩ = some (.slice (some ⟨g, 0, none⟩) 6 cap) ∧ w'.cell? ⟨w.heap.size, 1, none⟩ = some (.int .i64 now))) (ds := []) #[false, false, false, false, false, false, false, false] (by kernel_rfl) rfl rfl A0.drew.box (fun hHeld => ?_)
  have A1 := A0.drew
  generalize World.drew _ = w1 at A1 hHeld ⊢
  clear A0 z0 z1
  refine pure_ (i := 0) (N := some 5) (v := ?_) (a' := ?_) #[true, false, false, false, false, false, false, false] rfl rfl (by kernel_rfl) (fun _ _ _ h => h) (Or.inl ⟨by rfl, ?_⟩) ?_ ?_
  rotate_left
  · intro w'
    go_simp
    with_reducible rfl
  rotate_left
  · simp only [Act.put, List.setIfInBounds_toArray, List.set_cons_zero, List.set_cons_succ]
    rfl
  refine take_ (i := 1) (N := some 6) (v := ?_) (a' := ?_) #[true, true, false, false, false, false, false, false] rfl rfl (by kernel_rfl) (fun _ _ _ h => h) (Or.inl ⟨by rfl, ?_⟩) hHeld ?_ ?_
  rotate_left
  · rintro w' ⟨y0, y1⟩
    go_simp
    with_reducible rfl
  rotate_left
  · simp only [Act.put, List.setIfInBounds_toArray, List.set_cons_zero, List.set_cons_succ]
    rfl
  refine pure_ (i := 3) (N := some 8) (v := ?_) (a' := ?_) #[true, true, false, true, false, false, false, false] rfl rfl (by kernel_rfl) (fun _ _ _ h => h) (Or.inl ⟨by rfl, ?_⟩) ?_ ?_
  rotate_left
  · intro w'
    go_simp
    with_reducible rfl
  rotate_left
  · simp only [Act.put, List.setIfInBounds_toArray, List.set_cons_zero, List.set_cons_succ]
    rfl
  refine take_ (i := 4) (N := some 9) (v := ?_) (a' := ?_) #[true, true, false, true, true, false, false, false] rfl rfl (by kernel_rfl) (fun _ _ _ h => h) (Or.inl ⟨by rfl, ?_⟩) hHeld ?_ ?_
  rotate_left
  · rintro w' ⟨y0, y1⟩
    go_simp
    with_reducible rfl
  rotate_left
  · simp only [Act.put, List.setIfInBounds_toArray, List.set_cons_zero, List.set_cons_succ]
    rfl
  refine one_ (i := 2) (N := some 7) #[true, true, true, true, true, false, false, false] rfl rfl (by kernel_rfl) (by decide) (fun K hK => ?_)
  refine goes_ Tryd.func36 (by kernel_rfl) rfl #[.agg #[.slice (some ⟨g, 0, none⟩) 6 cap, .int .i64 now], .int .i64 0] (by rfl) rfl rfl (by first | (go_simp; done) | simp [Act.eval]) ?_
  refine (A1.is 0 (by omega) ba HA.out).mono ?_
  rintro e2 w2 ⟨rfl, A2⟩
  have hS := A2.box
  clear hHeld A1
  refine ⟨_, rfl, hK.out _ _ hS (fun hHeld => ?_)⟩
  clear hK K
  refine norm_ (a' := ?_) ?_ ?_
  rotate_left
  · show Act.put _ (some 7) _ = _
    simp only [Act.put, List.setIfInBounds_toArray, List.set_cons_zero, List.set_cons_succ]
    rfl
  refine one_ (i := 5) (N := some 10) #[true, true, true, true, true, true, false, false] rfl rfl (by kernel_rfl) (by decide) (fun K hK => ?_)
  refine goes_ Tryd.func36 (by kernel_rfl) rfl #[.agg #[.slice (some ⟨g, 0, none⟩) 6 cap, .int .i64 now], .int .i64 1] (by rfl) rfl rfl (by first | (go_simp; done) | simp [Act.eval]) ?_
  refine (A2.is 1 (by omega) bb HB.out).mono ?_
  rintro e3 w3 ⟨rfl, A3⟩
  have hS := A3.box
  clear hHeld A2
  refine ⟨_, rfl, hK.out _ _ hS (fun hHeld => ?_)⟩
  clear hK K
  refine norm_ (a' := ?_) ?_ ?_
  rotate_left
  · show Act.put _ (some 10) _ = _
    simp only [Act.put, List.setIfInBounds_toArray, List.set_cons_zero, List.set_cons_succ]
    rfl
  refine one_ (i := 6) (N := some 11) #[true, true, true, true, true, true, true, false] rfl rfl (by kernel_rfl) (by decide) (fun K hK => ?_)
  refine goes_ Tryd.func52 (by kernel_rfl) rfl #[.bool ba, .bool bb] (by rfl) rfl rfl (by first | (go_simp; done) | simp [Act.eval]) ?_
  refine (place_any ba bb _).mono ?_
  rintro e4 w4 ⟨rfl, hb⟩
  rw [HP.out]
  have A4 := A3.below hb
  have hS := A4.box
  clear hHeld A3 hb
  refine ⟨_, rfl, hK.out _ _ hS (fun hHeld => ?_)⟩
  clear hK K
  refine norm_ (a' := ?_) ?_ ?_
  rotate_left
  · show Act.put _ (some 11) _ = _
    simp only [Act.put, List.setIfInBounds_toArray, List.set_cons_zero, List.set_cons_succ]
    rfl
  refine pure_ (i := 7) (N := some 2) (v := ?_) (a' := ?_) #[true, true, true, true, true, true, true, true] rfl rfl (by kernel_rfl) (fun _ _ _ h => h) (Or.inl ⟨by rfl, ?_⟩) ?_ ?_
  rotate_left
  · intro w'
    go_simp
    with_reducible rfl
  rotate_left
  · simp only [Act.put, List.setIfInBounds_toArray, List.set_cons_zero, List.set_cons_succ]
    rfl
  refine done_ (by kernel_rfl) ?_
  obtain ⟨d0, d1⟩ := A4.box
  go_wp2_with fail
  refine (A4.is 2 (by omega) false (by rfl)).mono ?_
  rintro e5 w5 ⟨rfl, A5⟩
  clear A4 d0 d1
  obtain ⟨d0, d1⟩ := A5.box
  have x5 := (A5.cell 5 (by omega)).1
  go_wp2_with fail
  refine (HS.out _ (A5.circ HC.out)).mono ?_
  rintro e6 w6 ⟨rfl, hb⟩
  have A6 := A5.below hb
  clear A5 d0 d1 x5 hb HS
  obtain ⟨d0, d1⟩ := A6.box
  go_wp2_with fail
  refine start_ (n := 15) (S := fun w' => (w'.cell? ⟨w.heap.size, 0, none⟩ = some (.slice (some ⟨g, 0, none⟩) 6 cap) ∧ w'.cell? ⟨w.heap.size, 1, none⟩ = some (.int .i64 now)) ∧ w'.cell? ⟨g, 3, none⟩ = some (.int .i64 d)) (ds := [14]) #[false, false, false, false, false, false, false, false, false, false, false, false, false, false, false] (by kernel_rfl) rfl rfl ⟨A6.drew.box, (A6.drew.cell 3 (by omega)).1⟩ (fun hHeld => ?_)
  have A7 := A6.drew
  generalize World.drew _ = w7 at A7 hHeld ⊢
  clear A6 d0 d1
  refine pure_ (i := 0) (N := some 37) (v := ?_) (a' := ?_) #[true, false, false, false, false, false, false, false, false, false, false, false, false, false, false] rfl rfl (by kernel_rfl) (fun _ _ _ h => h) (Or.inl ⟨by rfl, ?_⟩) ?_ ?_
  rotate_left
  · intro w'
    go_simp
    with_reducible rfl
  rotate_left
  · simp only [Act.put, List.setIfInBounds_toArray, List.set_cons_zero, List.set_cons_succ]
    rfl
  refine pure_ (i := 1) (N := some 38) (v := ?_) (a' := ?_) #[true, true, false, false, false, false, false, false, false, false, false, false, false, false, false] rfl rfl (by kernel_rfl) (fun _ _ _ h => h) (Or.inl ⟨by rfl, ?_⟩) ?_ ?_
  rotate_left
  · intro w'
    go_simp
    with_reducible rfl
  rotate_left
  · simp only [Act.put, List.setIfInBounds_toArray, List.set_cons_zero, List.set_cons_succ]
    rfl
  refine take_ (i := 2) (N := some 39) (v := ?_) (a' := ?_) #[true, true, true, false, false, false, false, false, false, false, false, false, false, false, false] rfl rfl (by kernel_rfl) (fun _ _ _ h => h) (Or.inl ⟨by rfl, ?_⟩) hHeld ?_ ?_
  rotate_left
  · rintro w' ⟨⟨y0, y1⟩, y2⟩
    go_simp
    with_reducible rfl
  rotate_left
  · simp only [Act.put, List.setIfInBounds_toArray, List.set_cons_zero, List.set_cons_succ]
    rfl
  refine pure_ (i := 3) (N := some 40) (v := ?_) (a' := ?_) #[true, true, true, true, false, false, false, false, false, false, false, false, false, false, false] rfl rfl (by kernel_rfl) (fun _ _ _ h => h) (Or.inl ⟨by rfl, ?_⟩) ?_ ?_
  rotate_left
  · intro w'
    go_simp
    with_reducible rfl
  rotate_left
  · simp only [Act.put, List.setIfInBounds_toArray, List.set_cons_zero, List.set_cons_succ]
    rfl
  refine pure_ (i := 4) (N := some 41) (v := ?_) (a' := ?_) #[true, true, true, true, true, false, false, false, false, false, false, false, false, false, false] rfl rfl (by kernel_rfl) (fun _ _ _ h => h) (Or.inl ⟨by rfl, ?_⟩) ?_ ?_
  rotate_left
  · intro w'
    go_simp
    with_reducible rfl
  rotate_left
  · simp only [Act.put, List.setIfInBounds_toArray, List.set_cons_zero, List.set_cons_succ]
    rfl
  refine take_ (i := 5) (N := some 42) (v := ?_) (a' := ?_) #[true, true, true, true, true, true, false, false, false, false, false, false, false, false, false] rfl rfl (by kernel_rfl) (fun _ _ _ h => h) (Or.inl ⟨by rfl, ?_⟩) hHeld ?_ ?_
  rotate_left
  · rintro w' ⟨⟨y0, y1⟩, y2⟩
    go_simp
    with_reducible rfl
  rotate_left
  · simp only [Act.put, List.setIfInBounds_toArray, List.set_cons_zero, List.set_cons_succ]
    rfl
  refine pure_ (i := 6) (N := some 43) (v := ?_) (a' := ?_) #[true, true, true, true, true, true, true, false, false, false, false, false, false, false, false] rfl rfl (by kernel_rfl) (fun _ _ _ h => h) (Or.inl ⟨by rfl, ?_⟩) ?_ ?_
  rotate_left
  · intro w'
    go_simp
    with_reducible rfl
  rotate_left
  · simp only [Act.put, List.setIfInBounds_toArray, List.set_cons_zero, List.set_cons_succ]
    rfl
  refine take_ (i := 7) (N := some 44) (v := ?_) (a' := ?_) #[true, true, true, true, true, true, true, true, false, false, false, false, false, false, false] rfl rfl (by kernel_rfl) (fun _ _ _ h => h) (Or.inl ⟨by rfl, ?_⟩) hHeld ?_ ?_
  rotate_left
  · rintro w' ⟨⟨y0, y1⟩, y2⟩
    go_simp
    with_reducible rfl
  rotate_left
  · simp only [Act.put, List.setIfInBounds_toArray, List.set_cons_zero, List.set_cons_succ]
    rfl
  refine pure_ (i := 8) (N := some 45) (v := ?_) (a' := ?_) #[true, true, true, true, true, true, true, true, true, false, false, false, false, false, false] rfl rfl (by kernel_rfl) (fun _ _ _ h => h) (Or.inl ⟨by rfl, ?_⟩) ?_ ?_
  rotate_left
  · intro w'
    go_simp
    with_reducible rfl
  rotate_left
  · simp only [Act.put, List.setIfInBounds_toArray, List.set_cons_zero, List.set_cons_succ]
    rfl
  refine one_ (i := 9) (N := some 46) #[true, true, true, true, true, true, true, true, true, true, false, false, false, false, false] rfl rfl (by kernel_rfl) (by decide) (fun K hK => ?_)
  refine goes_ Tryd.func54 (by kernel_rfl) rfl #[.int .i64 1, .int .i64 3, .int .i64 d, .int .i64 n] (by rfl) rfl rfl (by first | (go_simp; done) | simp [Act.eval]) ?_
  refine (two_dint c0 c1 n0 n1 _).mono ?_
  rintro e8 w8 ⟨rfl, hb⟩
  have A8 := A7.below hb
  have hS := And.intro A8.box (A8.cell 3 (by omega)).1
  clear hHeld A7 hb
  refine ⟨_, rfl, hK.out _ _ hS (fun hHeld => ?_)⟩
  clear hK K
  refine norm_ (a' := ?_) ?_ ?_
  rotate_left
  · show Act.put _ (some 46) _ = _
    simp only [Act.put, List.setIfInBounds_toArray, List.set_cons_zero, List.set_cons_succ]
    rfl
  refine pure_ (i := 10) (N := some 36) (v := ?_) (a' := ?_) #[true, true, true, true, true, true, true, true, true, true, true, false, false, false, false] rfl rfl (by kernel_rfl) (fun _ _ _ h => h) (Or.inl ⟨by rfl, ?_⟩) ?_ ?_
  rotate_left
  · intro w'
    go_simp
    with_reducible rfl
  rotate_left
  · simp only [Act.put, List.setIfInBounds_toArray, List.set_cons_zero, List.set_cons_succ]
    rfl
  refine pure_ (i := 11) (N := some 47) (v := ?_) (a' := ?_) #[true, true, true, true, true, true, true, true, true, true, true, true, false, false, false] rfl rfl (by kernel_rfl) (fun _ _ _ h => h) (Or.inl ⟨by rfl, ?_⟩) ?_ ?_
  rotate_left
  · intro w'
    go_simp
    with_reducible rfl
  rotate_left
  · simp only [Act.put, List.setIfInBounds_toArray, List.set_cons_zero, List.set_cons_succ]
    rfl
  refine pure_ (i := 12) (N := some 48) (v := ?_) (a' := ?_) #[true, true, true, true, true, true, true, true, true, true, true, true, true, false, false] rfl rfl (by kernel_rfl) (fun _ _ _ h => h) (Or.inl ⟨by rfl, ?_⟩) ?_ ?_
  rotate_left
  · intro w'
    go_simp
    with_reducible rfl
  rotate_left
  · simp only [Act.put, List.setIfInBounds_toArray, List.set_cons_zero, List.set_cons_succ]
    rfl
  refine pure_ (i := 13) (N := some 49) (v := ?_) (a' := ?_) #[true, true, true, true, true, true, true, true, true, true, true, true, true, true, false] rfl rfl (by kernel_rfl) (fun _ _ _ h => h) (Or.inl ⟨by rfl, ?_⟩) ?_ ?_
  rotate_left
  · intro w'
    go_simp
    with_reducible rfl
  rotate_left
  · simp only [Act.put, List.setIfInBounds_toArray, List.set_cons_zero, List.set_cons_succ]
    rfl
  obtain ⟨x3, y3⟩ := A8.cell 3 (by omega)
  refine last_ (i := 14) (N := none) #[true, true, true, true, true, true, true, true, true, true, true, true, true, true, true] rfl rfl (by kernel_rfl) (by decide) (fun K hK => ?_)
  refine skip_ (w1 := ?_) (by rfl) rfl ?_ ?_
  rotate_left
  · go_simp
    rfl
  have A9 := A8.put 3 (wrap32 (d + n))
  clear x3 y3 hHeld A8
  refine hK.out _ _ ?_
  clear hK K
  refine done_ (by kernel_rfl) ?_
  obtain ⟨d0, d1⟩ := A9.box
  obtain ⟨x5, y5⟩ := A9.cell 5 (by omega)
  have A10 := A9.put 5 (P + 1)
  clear A9 HA HB HP
  go_wp2
  go_end0
  exact ⟨rfl, A10.has⟩

set_option maxRecDepth 100000 in
set_option maxHeartbeats 2000000 in
theorem kod_err {w0 w : World} {g cap : Nat} {a b d e f : Int} (now : Int) (h : Has w0 w g cap 6 [a, b, 0, d, e, f] w) (P : Int) (ba bb : Bool) (HA : Hid ((a == 1) = ba)) (HB : Hid ((b == 1) = bb)) (HP : Hid (placeV ba bb = P)) (p0 : 0 ≤ P) (p1 : P ≤ 3) (n : Int) (l0 : -32768 ≤ f) (l1 : f ≤ 32767) {r0 i0 r1 i1 r2 i2 r3 i3 : Nat} (HC : Hid (Circ r0 i0 r1 i1 r2 i2 r3 i3 w0)) (HS : Hid (∀ w, Circ r0 i0 r1 i1 r2 i2 r3 i3 w → Calls Tryd.prog 53 #[.int .i64 (f - 1), .int .i64 P] w fun x w' => x = .returned (.tuple #[.int .i64 n, .int .i64 110]) ∧ Below w.heap.size w w')) :
    Calls Tryd.prog 37 #[.agg #[.slice (some ⟨g, 0, none⟩) 6 cap, .int .i64 now]] w fun x w' => x = .returned (.tuple #[]) ∧ Has w0 w g cap 6 [a, b, 0, d, 1, P + 1] w' := by
  have A0 := At.enter h now 70
  obtain ⟨z0, z1⟩ := A0.box
  clear h
  go_enter Tryd.func37, Tryd.ntmps37
  go_wp2_with fail
  refine start_ (n := 8) (S := fun w' => (w'.cell? ⟨w.heap.size, 0, none⟩ = some (.slice (some ⟨g, 0, none⟩) 6 cap) ∧ w'.cell? ⟨w.heap.size, 1, none⟩ = some (.int .i64 now))) (ds := []) #[false, false, false, false, false, false, false, false] (by kernel_rfl) rfl rfl A0.drew.box (fun hHeld => ?_)
  have A1 := A0.drew
  generalize World.drew _ = w1 at A1 hHeld ⊢
  clear A0 z0 z1
  refine pure_ (i := 0) (N := some 5) (v := ?_) (a' := ?_) #[true, false, false, false, false, false, false, false] rfl rfl (by kernel_rfl) (fun _ _ _ h => h) (Or.inl ⟨by rfl, ?_⟩) ?_ ?_
  rotate_left
  · intro w'
    go_simp
    with_reducible rfl
  rotate_left
  · simp only [Act.put, List.setIfInBounds_toArray, List.set_cons_zero, List.set_cons_succ]
    rfl
  refine take_ (i := 1) (N := some 6) (v := ?_) (a' := ?_) #[true, true, false, false, false, false, false, false] rfl rfl (by kernel_rfl) (fun _ _ _ h => h) (Or.inl ⟨by rfl, ?_⟩) hHeld ?_ ?_
  rotate_left
  · rintro w' ⟨y0, y1⟩
    go_simp
    with_reducible rfl
  rotate_left
  · simp only [Act.put, List.setIfInBounds_toArray, List.set_cons_zero, List.set_cons_succ]
    rfl
  refine pure_ (i := 3) (N := some 8) (v := ?_) (a' := ?_) #[true, true, false, true, false, false, false, false] rfl rfl (by kernel_rfl) (fun _ _ _ h => h) (Or.inl ⟨by rfl, ?_⟩) ?_ ?_
  rotate_left
  · intro w'
    go_simp
    with_reducible rfl
  rotate_left
  · simp only [Act.put, List.setIfInBounds_toArray, List.set_cons_zero, List.set_cons_succ]
    rfl
  refine take_ (i := 4) (N := some 9) (v := ?_) (a' := ?_) #[true, true, false, true, true, false, false, false] rfl rfl (by kernel_rfl) (fun _ _ _ h => h) (Or.inl ⟨by rfl, ?_⟩) hHeld ?_ ?_
  rotate_left
  · rintro w' ⟨y0, y1⟩
    go_simp
    with_reducible rfl
  rotate_left
  · simp only [Act.put, List.setIfInBounds_toArray, List.set_cons_zero, List.set_cons_succ]
    rfl
  refine one_ (i := 2) (N := some 7) #[true, true, true, true, true, false, false, false] rfl rfl (by kernel_rfl) (by decide) (fun K hK => ?_)
  refine goes_ Tryd.func36 (by kernel_rfl) rfl #[.agg #[.slice (some ⟨g, 0, none⟩) 6 cap, .int .i64 now], .int .i64 0] (by rfl) rfl rfl (by first | (go_simp; done) | simp [Act.eval]) ?_
  refine (A1.is 0 (by omega) ba HA.out).mono ?_
  rintro e2 w2 ⟨rfl, A2⟩
  have hS := A2.box
  clear hHeld A1
  refine ⟨_, rfl, hK.out _ _ hS (fun hHeld => ?_)⟩
  clear hK K
  refine norm_ (a' := ?_) ?_ ?_
  rotate_left
  · show Act.put _ (some 7) _ = _
    simp only [Act.put, List.setIfInBounds_toArray, List.set_cons_zero, List.set_cons_succ]
    rfl
  refine one_ (i := 5) (N := some 10) #[true, true, true, true, true, true, false, false] rfl rfl (by kernel_rfl) (by decide) (fun K hK => ?_)
  refine goes_ Tryd.func36 (by kernel_rfl) rfl #[.agg #[.slice (some ⟨g, 0, none⟩) 6 cap, .int .i64 now], .int .i64 1] (by rfl) rfl rfl (by first | (go_simp; done) | simp [Act.eval]) ?_
  refine (A2.is 1 (by omega) bb HB.out).mono ?_
  rintro e3 w3 ⟨rfl, A3⟩
  have hS := A3.box
  clear hHeld A2
  refine ⟨_, rfl, hK.out _ _ hS (fun hHeld => ?_)⟩
  clear hK K
  refine norm_ (a' := ?_) ?_ ?_
  rotate_left
  · show Act.put _ (some 10) _ = _
    simp only [Act.put, List.setIfInBounds_toArray, List.set_cons_zero, List.set_cons_succ]
    rfl
  refine one_ (i := 6) (N := some 11) #[true, true, true, true, true, true, true, false] rfl rfl (by kernel_rfl) (by decide) (fun K hK => ?_)
  refine goes_ Tryd.func52 (by kernel_rfl) rfl #[.bool ba, .bool bb] (by rfl) rfl rfl (by first | (go_simp; done) | simp [Act.eval]) ?_
  refine (place_any ba bb _).mono ?_
  rintro e4 w4 ⟨rfl, hb⟩
  rw [HP.out]
  have A4 := A3.below hb
  have hS := A4.box
  clear hHeld A3 hb
  refine ⟨_, rfl, hK.out _ _ hS (fun hHeld => ?_)⟩
  clear hK K
  refine norm_ (a' := ?_) ?_ ?_
  rotate_left
  · show Act.put _ (some 11) _ = _
    simp only [Act.put, List.setIfInBounds_toArray, List.set_cons_zero, List.set_cons_succ]
    rfl
  refine pure_ (i := 7) (N := some 2) (v := ?_) (a' := ?_) #[true, true, true, true, true, true, true, true] rfl rfl (by kernel_rfl) (fun _ _ _ h => h) (Or.inl ⟨by rfl, ?_⟩) ?_ ?_
  rotate_left
  · intro w'
    go_simp
    with_reducible rfl
  rotate_left
  · simp only [Act.put, List.setIfInBounds_toArray, List.set_cons_zero, List.set_cons_succ]
    rfl
  refine done_ (by kernel_rfl) ?_
  obtain ⟨d0, d1⟩ := A4.box
  go_wp2_with fail
  refine (A4.is 2 (by omega) false (by rfl)).mono ?_
  rintro e5 w5 ⟨rfl, A5⟩
  clear A4 d0 d1
  obtain ⟨d0, d1⟩ := A5.box
  have x5 := (A5.cell 5 (by omega)).1
  go_wp2_with fail
  refine (HS.out _ (A5.circ HC.out)).mono ?_
  rintro e6 w6 ⟨rfl, hb⟩
  have A6 := A5.below hb
  clear A5 d0 d1 x5 hb HS
  obtain ⟨d0, d1⟩ := A6.box
  go_wp2_with fail
  refine (A6.set 4 (by omega) true).mono ?_
  rintro e7 w7 ⟨rfl, A7⟩
  clear A6 d0 d1
  obtain ⟨d0, d1⟩ := A7.box
  obtain ⟨x5, y5⟩ := A7.cell 5 (by omega)
  have A8 := A7.put 5 (P + 1)
  clear A7 HA HB HP
  go_wp2
  go_end0
  exact ⟨rfl, A8.has⟩

set_option maxRecDepth 100000 in
set_option maxHeartbeats 2000000 in
theorem kod_no {w0 w : World} {g cap : Nat} {a b d e f : Int} (now : Int) (h : Has w0 w g cap 6 [a, b, 0, d, e, f] w) (P : Int) (ba bb : Bool) (HA : Hid ((a == 1) = ba)) (HB : Hid ((b == 1) = bb)) (HP : Hid (placeV ba bb = P)) (p0 : 0 ≤ P) (p1 : P ≤ 3) (n e_ : Int) (l0 : -32768 ≤ f) (l1 : f ≤ 32767) {r0 i0 r1 i1 r2 i2 r3 i3 : Nat} (HC : Hid (Circ r0 i0 r1 i1 r2 i2 r3 i3 w0)) (HS : Hid (∀ w, Circ r0 i0 r1 i1 r2 i2 r3 i3 w → Calls Tryd.prog 53 #[.int .i64 (f - 1), .int .i64 P] w fun x w' => x = .returned (.tuple #[.int .i64 n, .int .i64 e_]) ∧ Below w.heap.size w w')) (he0 : (e_ == 0) = false) (he1 : (e_ == 110) = false) :
    Calls Tryd.prog 37 #[.agg #[.slice (some ⟨g, 0, none⟩) 6 cap, .int .i64 now]] w fun x w' => x = .returned (.tuple #[]) ∧ Has w0 w g cap 6 [a, b, 0, d, e, P + 1] w' := by
  have A0 := At.enter h now 70
  obtain ⟨z0, z1⟩ := A0.box
  clear h
  go_enter Tryd.func37, Tryd.ntmps37
  go_wp2_with fail
  refine start_ (n := 8) (S := fun w' => (w'.cell? ⟨w.heap.size, 0, none⟩ = some (.slice (some ⟨g, 0, none⟩) 6 cap) ∧ w'.cell? ⟨w.heap.size, 1, none⟩ = some (.int .i64 now))) (ds := []) #[false, false, false, false, false, false, false, false] (by kernel_rfl) rfl rfl A0.drew.box (fun hHeld => ?_)
  have A1 := A0.drew
  generalize World.drew _ = w1 at A1 hHeld ⊢
  clear A0 z0 z1
  refine pure_ (i := 0) (N := some 5) (v := ?_) (a' := ?_) #[true, false, false, false, false, false, false, false] rfl rfl (by kernel_rfl) (fun _ _ _ h => h) (Or.inl ⟨by rfl, ?_⟩) ?_ ?_
  rotate_left
  · intro w'
    go_simp
    with_reducible rfl
  rotate_left
  · simp only [Act.put, List.setIfInBounds_toArray, List.set_cons_zero, List.set_cons_succ]
    rfl
  refine take_ (i := 1) (N := some 6) (v := ?_) (a' := ?_) #[true, true, false, false, false, false, false, false] rfl rfl (by kernel_rfl) (fun _ _ _ h => h) (Or.inl ⟨by rfl, ?_⟩) hHeld ?_ ?_
  rotate_left
  · rintro w' ⟨y0, y1⟩
    go_simp
    with_reducible rfl
  rotate_left
  · simp only [Act.put, List.setIfInBounds_toArray, List.set_cons_zero, List.set_cons_succ]
    rfl
  refine pure_ (i := 3) (N := some 8) (v := ?_) (a' := ?_) #[true, true, false, true, false, false, false, false] rfl rfl (by kernel_rfl) (fun _ _ _ h => h) (Or.inl ⟨by rfl, ?_⟩) ?_ ?_
  rotate_left
  · intro w'
    go_simp
    with_reducible rfl
  rotate_left
  · simp only [Act.put, List.setIfInBounds_toArray, List.set_cons_zero, List.set_cons_succ]
    rfl
  refine take_ (i := 4) (N := some 9) (v := ?_) (a' := ?_) #[true, true, false, true, true, false, false, false] rfl rfl (by kernel_rfl) (fun _ _ _ h => h) (Or.inl ⟨by rfl, ?_⟩) hHeld ?_ ?_
  rotate_left
  · rintro w' ⟨y0, y1⟩
    go_simp
    with_reducible rfl
  rotate_left
  · simp only [Act.put, List.setIfInBounds_toArray, List.set_cons_zero, List.set_cons_succ]
    rfl
  refine one_ (i := 2) (N := some 7) #[true, true, true, true, true, false, false, false] rfl rfl (by kernel_rfl) (by decide) (fun K hK => ?_)
  refine goes_ Tryd.func36 (by kernel_rfl) rfl #[.agg #[.slice (some ⟨g, 0, none⟩) 6 cap, .int .i64 now], .int .i64 0] (by rfl) rfl rfl (by first | (go_simp; done) | simp [Act.eval]) ?_
  refine (A1.is 0 (by omega) ba HA.out).mono ?_
  rintro e2 w2 ⟨rfl, A2⟩
  have hS := A2.box
  clear hHeld A1
  refine ⟨_, rfl, hK.out _ _ hS (fun hHeld => ?_)⟩
  clear hK K
  refine norm_ (a' := ?_) ?_ ?_
  rotate_left
  · show Act.put _ (some 7) _ = _
    simp only [Act.put, List.setIfInBounds_toArray, List.set_cons_zero, List.set_cons_succ]
    rfl
  refine one_ (i := 5) (N := some 10) #[true, true, true, true, true, true, false, false] rfl rfl (by kernel_rfl) (by decide) (fun K hK => ?_)
  refine goes_ Tryd.func36 (by kernel_rfl) rfl #[.agg #[.slice (some ⟨g, 0, none⟩) 6 cap, .int .i64 now], .int .i64 1] (by rfl) rfl rfl (by first | (go_simp; done) | simp [Act.eval]) ?_
  refine (A2.is 1 (by omega) bb HB.out).mono ?_
  rintro e3 w3 ⟨rfl, A3⟩
  have hS := A3.box
  clear hHeld A2
  refine ⟨_, rfl, hK.out _ _ hS (fun hHeld => ?_)⟩
  clear hK K
  refine norm_ (a' := ?_) ?_ ?_
  rotate_left
  · show Act.put _ (some 10) _ = _
    simp only [Act.put, List.setIfInBounds_toArray, List.set_cons_zero, List.set_cons_succ]
    rfl
  refine one_ (i := 6) (N := some 11) #[true, true, true, true, true, true, true, false] rfl rfl (by kernel_rfl) (by decide) (fun K hK => ?_)
  refine goes_ Tryd.func52 (by kernel_rfl) rfl #[.bool ba, .bool bb] (by rfl) rfl rfl (by first | (go_simp; done) | simp [Act.eval]) ?_
  refine (place_any ba bb _).mono ?_
  rintro e4 w4 ⟨rfl, hb⟩
  rw [HP.out]
  have A4 := A3.below hb
  have hS := A4.box
  clear hHeld A3 hb
  refine ⟨_, rfl, hK.out _ _ hS (fun hHeld => ?_)⟩
  clear hK K
  refine norm_ (a' := ?_) ?_ ?_
  rotate_left
  · show Act.put _ (some 11) _ = _
    simp only [Act.put, List.setIfInBounds_toArray, List.set_cons_zero, List.set_cons_succ]
    rfl
  refine pure_ (i := 7) (N := some 2) (v := ?_) (a' := ?_) #[true, true, true, true, true, true, true, true] rfl rfl (by kernel_rfl) (fun _ _ _ h => h) (Or.inl ⟨by rfl, ?_⟩) ?_ ?_
  rotate_left
  · intro w'
    go_simp
    with_reducible rfl
  rotate_left
  · simp only [Act.put, List.setIfInBounds_toArray, List.set_cons_zero, List.set_cons_succ]
    rfl
  refine done_ (by kernel_rfl) ?_
  obtain ⟨d0, d1⟩ := A4.box
  go_wp2_with fail
  refine (A4.is 2 (by omega) false (by rfl)).mono ?_
  rintro e5 w5 ⟨rfl, A5⟩
  clear A4 d0 d1
  obtain ⟨d0, d1⟩ := A5.box
  have x5 := (A5.cell 5 (by omega)).1
  go_wp2_with fail
  refine (HS.out _ (A5.circ HC.out)).mono ?_
  rintro e6 w6 ⟨rfl, hb⟩
  have A6 := A5.below hb
  clear A5 d0 d1 x5 hb HS
  obtain ⟨d0, d1⟩ := A6.box
  obtain ⟨x5, y5⟩ := A6.cell 5 (by omega)
  have A7 := A6.put 5 (P + 1)
  clear A6 HA HB HP
  go_wp2
  go_end0
  exact ⟨rfl, A7.has⟩

set_option maxRecDepth 100000 in
theorem do_quad {w0 w : World} {g cap : Nat} {l l' : List Int} (now : Int) (h : Has w0 w g cap 6 l w)
    (hm : ∀ w, Has w0 w g cap 6 l w → Calls Tryd.prog 37 #[.agg #[.slice (some ⟨g, 0, none⟩) 6 cap, .int .i64 now]] w fun x w' => x = .returned (.tuple #[]) ∧ Has w0 w g cap 6 l' w') :
    Calls Tryd.prog 20 #[.agg #[.slice (some ⟨g, 0, none⟩) 6 cap, .int .i64 now], .int .i64 10] w fun x w' => x = .returned (.tuple #[]) ∧ Has w0 w g cap 6 l' w' := by
  have A0 := At.enter h now 47
  obtain ⟨c0, c1⟩ := A0.box
  have HM := Lib.hid hm
  clear h hm
  go_enter Tryd.func20, Tryd.ntmps20
  go_wp2_with fail
  refine (HM.out _ A0.has.self).mono ?_
  rintro e1 w1 ⟨rfl, h1⟩
  have A1 := A0.after h1
  clear c0 c1 A0 h1 HM
  go_wp2
  go_end0
  exact ⟨rfl, A1.has⟩

/-- what a QUAD makes of its cells: n, e what quad.Step tells -/
def quadV (a b r d e : Int) (n e_ : Int) : List Int :=
  if r = 1 then [a, b, 1, 0, 0, placeV (a == 1) (b == 1) + 1]
  else if e_ = 0 then [a, b, 0, wrap32 (d + n), e, placeV (a == 1) (b == 1) + 1]
  else if e_ = 110 then [a, b, 0, d, 1, placeV (a == 1) (b == 1) + 1]
  else [a, b, 0, d, e, placeV (a == 1) (b == 1) + 1]
/-- a QUAD's call, whatever the circle holds: the same cells come of the same cells -/
theorem does_quad {a b r d e f : Int} (hr : Bit r) (hd : I32 d) (hf : I16 f) (r0 i0 r1 i1 r2 i2 r3 i3 : Nat) : ∃ n e_ : Int, -1 ≤ n ∧ n ≤ 1 ∧ ∀ (now : Int) {w0 w : World} {g cap : Nat}, Circ r0 i0 r1 i1 r2 i2 r3 i3 w0 → Has w0 w g cap 6 [a, b, r, d, e, f] w →
    Calls Tryd.prog 20 #[.agg #[.slice (some ⟨g, 0, none⟩) 6 cap, .int .i64 now], .int .i64 10] w fun x w' => x = .returned (.tuple #[]) ∧ Has w0 w g cap 6 (quadV a b r d e n e_) w' := by
  obtain ⟨n, e_, n0, n1, hs⟩ := qstep_any (f - 1) (placeV (a == 1) (b == 1)) r0 i0 r1 i1 r2 i2 r3 i3
  have hp := place_in (a == 1) (b == 1)
  refine ⟨n, e_, n0, n1, fun now {w0 w g cap} hC h => ?_⟩
  rcases hr with rfl | rfl
  · by_cases h0 : e_ = 0
    · subst h0
      refine do_quad now h fun w h => ?_
      have h2 := kod_go now h (placeV (a == 1) (b == 1)) _ _ (Lib.hid rfl) (Lib.hid rfl) (Lib.hid rfl) hp.1 hp.2 n n0 n1 hd.1 hd.2 hf.1 hf.2 (Lib.hid hC) (Lib.hid hs)
      simpa [quadV] using h2
    · by_cases h1 : e_ = 110
      · subst h1
        refine do_quad now h fun w h => ?_
        have h2 := kod_err now h (placeV (a == 1) (b == 1)) _ _ (Lib.hid rfl) (Lib.hid rfl) (Lib.hid rfl) hp.1 hp.2 n hf.1 hf.2 (Lib.hid hC) (Lib.hid hs)
        simpa [quadV] using h2
      · refine do_quad now h fun w h => ?_
        have h2 := kod_no now h (placeV (a == 1) (b == 1)) _ _ (Lib.hid rfl) (Lib.hid rfl) (Lib.hid rfl) hp.1 hp.2 n e_ hf.1 hf.2 (Lib.hid hC) (Lib.hid hs) (by simpa using h0) (by simpa using h1)
        simpa [quadV, h0, h1] using h2
  · refine do_quad now h fun w h => ?_
    have h2 := kod_back now h (placeV (a == 1) (b == 1)) _ _ (Lib.hid rfl) (Lib.hid rfl) (Lib.hid rfl) hp.1 hp.2
    simpa [quadV] using h2

end Go.Proofs.YtefflkmegodafaaDoor.PBlockKeeps
