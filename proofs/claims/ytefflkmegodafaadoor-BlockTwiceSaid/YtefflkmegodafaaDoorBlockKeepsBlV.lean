/-
  The walk of layer 12: a timer's count.
-/
import Derived.Test.YtefflkmegodafaaDoorBlockKeepsBlN
import Derived.Test.YtefflkmegodafaaDoorNumEB
namespace Go.Proofs.YtefflkmegodafaaDoor.PBlockKeeps
open Go.RowKit Go.Proofs.YtefflkmegodafaaDoorW.PrintWords Go.Proofs.YtefflkmegodafaaDoorW.PrintLast Go.Proofs.YtefflkmegodafaaDoorW.PrintMore
attribute [local go_sem] Oper.semAt_some

/-- what has gone -/
def goneV (now s : Int) : Int := wrap32 (now - s)
theorem fits4 {n : Int} (n0 : -2147483648 ≤ n) (n1 : n ≤ 2147483647) : Num.fitsB 4 n = true := by
  have e : wrap32 n = n := by unfold wrap32; omega
  simp [Num.fitsB, Num.knownB, Num.wrapT, e]
theorem sub_time {n s : Int} (n0 : -2147483648 ≤ n) (n1 : n ≤ 2147483647) (s0 : -2147483648 ≤ s) (s1 : s ≤ 2147483647) : Num.doesV 2 4 false n s = (goneV n s, 0) := by
  have e : wrap64 (n - s) = n - s := by unfold wrap64; omega
  unfold Num.doesV
  rw [if_neg (by simp), if_neg (by simp [Num.opOne]), if_neg (by decide), fits4 n0 n1, fits4 s0 s1, if_neg (by simp), if_neg (by simp), if_neg (by simp), if_neg (by simp [Num.opTruth])]
  simp [Num.opV, Num.wrapT, e, goneV]
theorem two_time {n s : Int} (n0 : -2147483648 ≤ n) (n1 : n ≤ 2147483647) (s0 : -2147483648 ≤ s) (s1 : s ≤ 2147483647) (w : World) : Calls Tryd.prog 54 #[.int .i64 2, .int .i64 4, .int .i64 n, .int .i64 s] w fun e w' => e = .returned (.tuple #[.int .i64 (goneV n s), .int .i64 0]) ∧ Below w.heap.size w w' := by
  have h := Num.two_any 2 4 n s w
  rw [sub_time n0 n1 s0 s1] at h
  exact h

set_option maxRecDepth 100000 in
set_option maxHeartbeats 1000000 in
theorem count_any {w0 w : World} {g cap : Nat} {a b c d e f : Int} (now : Int) (h : Has w0 w g cap 6 [a, b, c, d, e, f] w) (n0 : -2147483648 ≤ now) (n1 : now ≤ 2147483647) (s0 : -2147483648 ≤ e) (s1 : e ≤ 2147483647) :
    Calls Tryd.prog 50 #[.agg #[.slice (some ⟨g, 0, none⟩) 6 cap, .int .i64 now]] w fun x w' => x = .returned (.bool (decide (b ≤ goneV now e))) ∧ Has w0 w g cap 6 [a, b, c, min (goneV now e) b, e, f] w' := by
  have h3 := At.enter h now 66
  obtain ⟨c0, c1⟩ := h3.box
  go_enter Tryd.func50, Tryd.ntmps50
  go_wp2_with fail
  refine start_ (n := 14) (S := fun w' => At w0 w g cap 6 w.heap.size now [a, b, c, d, e, f] w') (ds := []) #[false, false, false, false, false, false, false, false, false, false, false, false, false, false] (by kernel_rfl) rfl rfl h3.drew (fun hHeld => ?_)
  generalize (w.alloc (.cells #[.slice (some ⟨g, 0, none⟩) 6 cap, .int .i64 now] 66)).drew = w1 at hHeld ⊢
  clear c0 c1 h3 h
  refine pure_ (i := 0) (N := some 6) (v := ?_) (a' := ?_) #[true, false, false, false, false, false, false, false, false, false, false, false, false, false] rfl rfl (by kernel_rfl) (fun _ _ _ h => h) (Or.inl ⟨by rfl, ?_⟩) ?_ ?_
  rotate_left
  · intro w'
    go_simp
    with_reducible rfl
  rotate_left
  · simp only [Act.put, List.setIfInBounds_toArray, List.set_cons_zero, List.set_cons_succ]
    rfl
  refine pure_ (i := 1) (N := some 7) (v := ?_) (a' := ?_) #[true, true, false, false, false, false, false, false, false, false, false, false, false, false] rfl rfl (by kernel_rfl) (fun _ _ _ h => h) (Or.inl ⟨by rfl, ?_⟩) ?_ ?_
  rotate_left
  · intro w'
    go_simp
    with_reducible rfl
  rotate_left
  · simp only [Act.put, List.setIfInBounds_toArray, List.set_cons_zero, List.set_cons_succ]
    rfl
  refine take_ (i := 2) (N := some 8) (v := ?_) (a' := ?_) #[true, true, true, false, false, false, false, false, false, false, false, false, false, false] rfl rfl (by kernel_rfl) (fun _ _ _ h => h) (Or.inl ⟨by rfl, ?_⟩) hHeld ?_ ?_
  rotate_left
  · intro w' hA
    obtain ⟨s0, s1⟩ := hA.box
    have s2 := (hA.cell 4 (by omega)).1
    have s3 := (hA.cell 1 (by omega)).1
    go_simp
    with_reducible rfl
  rotate_left
  · simp only [Act.put, List.setIfInBounds_toArray, List.set_cons_zero, List.set_cons_succ]
    rfl
  refine pure_ (i := 3) (N := some 9) (v := ?_) (a' := ?_) #[true, true, true, true, false, false, false, false, false, false, false, false, false, false] rfl rfl (by kernel_rfl) (fun _ _ _ h => h) (Or.inl ⟨by rfl, ?_⟩) ?_ ?_
  rotate_left
  · intro w'
    go_simp
    with_reducible rfl
  rotate_left
  · simp only [Act.put, List.setIfInBounds_toArray, List.set_cons_zero, List.set_cons_succ]
    rfl
  refine pure_ (i := 4) (N := some 10) (v := ?_) (a' := ?_) #[true, true, true, true, true, false, false, false, false, false, false, false, false, false] rfl rfl (by kernel_rfl) (fun _ _ _ h => h) (Or.inl ⟨by rfl, ?_⟩) ?_ ?_
  rotate_left
  · intro w'
    go_simp
    with_reducible rfl
  rotate_left
  · simp only [Act.put, List.setIfInBounds_toArray, List.set_cons_zero, List.set_cons_succ]
    rfl
  refine take_ (i := 5) (N := some 11) (v := ?_) (a' := ?_) #[true, true, true, true, true, true, false, false, false, false, false, false, false, false] rfl rfl (by kernel_rfl) (fun _ _ _ h => h) (Or.inl ⟨by rfl, ?_⟩) hHeld ?_ ?_
  rotate_left
  · intro w' hA
    obtain ⟨s0, s1⟩ := hA.box
    have s2 := (hA.cell 4 (by omega)).1
    have s3 := (hA.cell 1 (by omega)).1
    go_simp
    with_reducible rfl
  rotate_left
  · simp only [Act.put, List.setIfInBounds_toArray, List.set_cons_zero, List.set_cons_succ]
    rfl
  refine pure_ (i := 6) (N := some 12) (v := ?_) (a' := ?_) #[true, true, true, true, true, true, true, false, false, false, false, false, false, false] rfl rfl (by kernel_rfl) (fun _ _ _ h => h) (Or.inl ⟨by rfl, ?_⟩) ?_ ?_
  rotate_left
  · intro w'
    go_simp
    with_reducible rfl
  rotate_left
  · simp only [Act.put, List.setIfInBounds_toArray, List.set_cons_zero, List.set_cons_succ]
    rfl
  refine take_ (i := 7) (N := some 13) (v := ?_) (a' := ?_) #[true, true, true, true, true, true, true, true, false, false, false, false, false, false] rfl rfl (by kernel_rfl) (fun _ _ _ h => h) (Or.inl ⟨by rfl, ?_⟩) hHeld ?_ ?_
  rotate_left
  · intro w' hA
    obtain ⟨s0, s1⟩ := hA.box
    have s2 := (hA.cell 4 (by omega)).1
    have s3 := (hA.cell 1 (by omega)).1
    go_simp
    with_reducible rfl
  rotate_left
  · simp only [Act.put, List.setIfInBounds_toArray, List.set_cons_zero, List.set_cons_succ]
    rfl
  refine one_ (i := 8) (N := some 14) #[true, true, true, true, true, true, true, true, true, false, false, false, false, false] rfl rfl (by kernel_rfl) (by decide) (fun K hK => ?_)
  refine goes_ Tryd.func54 (by kernel_rfl) rfl #[.int .i64 2, .int .i64 4, .int .i64 now, .int .i64 e] (by rfl) rfl rfl (by first | (go_simp; done) | simp [Act.eval]) ?_
  refine (two_time n0 n1 s0 s1 w1).mono ?_
  rintro e1 w2 ⟨rfl, hb⟩
  have hS := hHeld.below hb
  clear hHeld hb
  refine ⟨_, rfl, hK.out _ _ hS (fun hHeld => ?_)⟩
  clear hK K
  refine norm_ (a' := ?_) ?_ ?_
  rotate_left
  · show Act.put _ (some 14) _ = _
    simp only [Act.put, List.setIfInBounds_toArray, List.set_cons_zero, List.set_cons_succ]
    rfl
  refine pure_ (i := 9) (N := some 5) (v := ?_) (a' := ?_) #[true, true, true, true, true, true, true, true, true, true, false, false, false, false] rfl rfl (by kernel_rfl) (fun _ _ _ h => h) (Or.inl ⟨by rfl, ?_⟩) ?_ ?_
  rotate_left
  · intro w'
    go_simp
    with_reducible rfl
  rotate_left
  · simp only [Act.put, List.setIfInBounds_toArray, List.set_cons_zero, List.set_cons_succ]
    rfl
  refine pure_ (i := 10) (N := some 15) (v := ?_) (a' := ?_) #[true, true, true, true, true, true, true, true, true, true, true, false, false, false] rfl rfl (by kernel_rfl) (fun _ _ _ h => h) (Or.inl ⟨by rfl, ?_⟩) ?_ ?_
  rotate_left
  · intro w'
    go_simp
    with_reducible rfl
  rotate_left
  · simp only [Act.put, List.setIfInBounds_toArray, List.set_cons_zero, List.set_cons_succ]
    rfl
  refine pure_ (i := 11) (N := some 16) (v := ?_) (a' := ?_) #[true, true, true, true, true, true, true, true, true, true, true, true, false, false] rfl rfl (by kernel_rfl) (fun _ _ _ h => h) (Or.inl ⟨by rfl, ?_⟩) ?_ ?_
  rotate_left
  · intro w'
    go_simp
    with_reducible rfl
  rotate_left
  · simp only [Act.put, List.setIfInBounds_toArray, List.set_cons_zero, List.set_cons_succ]
    rfl
  refine pure_ (i := 12) (N := some 3) (v := ?_) (a' := ?_) #[true, true, true, true, true, true, true, true, true, true, true, true, true, false] rfl rfl (by kernel_rfl) (fun _ _ _ h => h) (Or.inl ⟨by rfl, ?_⟩) ?_ ?_
  rotate_left
  · intro w'
    go_simp
    with_reducible rfl
  rotate_left
  · simp only [Act.put, List.setIfInBounds_toArray, List.set_cons_zero, List.set_cons_succ]
    rfl
  refine pure_ (i := 13) (N := some 4) (v := ?_) (a' := ?_) #[true, true, true, true, true, true, true, true, true, true, true, true, true, true] rfl rfl (by kernel_rfl) (fun _ _ _ h => h) (Or.inl ⟨by rfl, ?_⟩) ?_ ?_
  rotate_left
  · intro w'
    go_simp
    with_reducible rfl
  rotate_left
  · simp only [Act.put, List.setIfInBounds_toArray, List.set_cons_zero, List.set_cons_succ]
    rfl
  refine done_ (by kernel_rfl) ?_
  go_wp2_with fail
  refine start_ (n := 12) (S := fun w' => At w0 w g cap 6 w.heap.size now [a, b, c, d, e, f] w') (ds := [11]) #[false, false, false, false, false, false, false, false, false, false, false, false] (by kernel_rfl) rfl rfl hHeld.drew (fun hHeld => ?_)
  generalize w2.drew = w3 at hHeld ⊢
  have x3 := (hHeld.cell 3 (by omega)).1
  have y3 := (hHeld.cell 3 (by omega)).2
  refine pure_ (i := 0) (N := some 17) (v := ?_) (a' := ?_) #[true, false, false, false, false, false, false, false, false, false, false, false] rfl rfl (by kernel_rfl) (fun _ _ _ h => h) (Or.inl ⟨by rfl, ?_⟩) ?_ ?_
  rotate_left
  · intro w'
    go_simp
    with_reducible rfl
  rotate_left
  · simp only [Act.put, List.setIfInBounds_toArray, List.set_cons_zero, List.set_cons_succ]
    rfl
  refine pure_ (i := 1) (N := some 18) (v := ?_) (a' := ?_) #[true, true, false, false, false, false, false, false, false, false, false, false] rfl rfl (by kernel_rfl) (fun _ _ _ h => h) (Or.inl ⟨by rfl, ?_⟩) ?_ ?_
  rotate_left
  · intro w'
    go_simp
    with_reducible rfl
  rotate_left
  · simp only [Act.put, List.setIfInBounds_toArray, List.set_cons_zero, List.set_cons_succ]
    rfl
  refine take_ (i := 2) (N := some 19) (v := ?_) (a' := ?_) #[true, true, true, false, false, false, false, false, false, false, false, false] rfl rfl (by kernel_rfl) (fun _ _ _ h => h) (Or.inl ⟨by rfl, ?_⟩) hHeld ?_ ?_
  rotate_left
  · intro w' hA
    obtain ⟨s0, s1⟩ := hA.box
    have s2 := (hA.cell 4 (by omega)).1
    have s3 := (hA.cell 1 (by omega)).1
    go_simp
    with_reducible rfl
  rotate_left
  · simp only [Act.put, List.setIfInBounds_toArray, List.set_cons_zero, List.set_cons_succ]
    rfl
  refine pure_ (i := 3) (N := some 20) (v := ?_) (a' := ?_) #[true, true, true, true, false, false, false, false, false, false, false, false] rfl rfl (by kernel_rfl) (fun _ _ _ h => h) (Or.inl ⟨by rfl, ?_⟩) ?_ ?_
  rotate_left
  · intro w'
    go_simp
    with_reducible rfl
  rotate_left
  · simp only [Act.put, List.setIfInBounds_toArray, List.set_cons_zero, List.set_cons_succ]
    rfl
  refine pure_ (i := 4) (N := some 21) (v := ?_) (a' := ?_) #[true, true, true, true, true, false, false, false, false, false, false, false] rfl rfl (by kernel_rfl) (fun _ _ _ h => h) (Or.inl ⟨by rfl, ?_⟩) ?_ ?_
  rotate_left
  · intro w'
    go_simp
    with_reducible rfl
  rotate_left
  · simp only [Act.put, List.setIfInBounds_toArray, List.set_cons_zero, List.set_cons_succ]
    rfl
  refine pure_ (i := 5) (N := some 22) (v := ?_) (a' := ?_) #[true, true, true, true, true, true, false, false, false, false, false, false] rfl rfl (by kernel_rfl) (fun _ _ _ h => h) (Or.inl ⟨by rfl, ?_⟩) ?_ ?_
  rotate_left
  · intro w'
    go_simp
    with_reducible rfl
  rotate_left
  · simp only [Act.put, List.setIfInBounds_toArray, List.set_cons_zero, List.set_cons_succ]
    rfl
  refine take_ (i := 6) (N := some 23) (v := ?_) (a' := ?_) #[true, true, true, true, true, true, true, false, false, false, false, false] rfl rfl (by kernel_rfl) (fun _ _ _ h => h) (Or.inl ⟨by rfl, ?_⟩) hHeld ?_ ?_
  rotate_left
  · intro w' hA
    obtain ⟨s0, s1⟩ := hA.box
    have s2 := (hA.cell 4 (by omega)).1
    have s3 := (hA.cell 1 (by omega)).1
    go_simp
    with_reducible rfl
  rotate_left
  · simp only [Act.put, List.setIfInBounds_toArray, List.set_cons_zero, List.set_cons_succ]
    rfl
  refine pure_ (i := 7) (N := some 24) (v := ?_) (a' := ?_) #[true, true, true, true, true, true, true, true, false, false, false, false] rfl rfl (by kernel_rfl) (fun _ _ _ h => h) (Or.inl ⟨by rfl, ?_⟩) ?_ ?_
  rotate_left
  · intro w'
    go_simp
    with_reducible rfl
  rotate_left
  · simp only [Act.put, List.setIfInBounds_toArray, List.set_cons_zero, List.set_cons_succ]
    rfl
  refine take_ (i := 8) (N := some 25) (v := ?_) (a' := ?_) #[true, true, true, true, true, true, true, true, true, false, false, false] rfl rfl (by kernel_rfl) (fun _ _ _ h => h) (Or.inl ⟨by rfl, ?_⟩) hHeld ?_ ?_
  rotate_left
  · intro w' hA
    obtain ⟨s0, s1⟩ := hA.box
    have s2 := (hA.cell 4 (by omega)).1
    have s3 := (hA.cell 1 (by omega)).1
    go_simp
    with_reducible rfl
  rotate_left
  · simp only [Act.put, List.setIfInBounds_toArray, List.set_cons_zero, List.set_cons_succ]
    rfl
  refine pure_ (i := 9) (N := some 26) (v := ?_) (a' := ?_) #[true, true, true, true, true, true, true, true, true, true, false, false] rfl rfl (by kernel_rfl) (fun _ _ _ h => h) (Or.inl ⟨by rfl, ?_⟩) ?_ ?_
  rotate_left
  · intro w'
    go_simp
    with_reducible rfl
  rotate_left
  · simp only [Act.put, List.setIfInBounds_toArray, List.set_cons_zero, List.set_cons_succ]
    rfl
  refine pure_ (i := 10) (N := some 27) (v := ?_) (a' := ?_) #[true, true, true, true, true, true, true, true, true, true, true, false] rfl rfl (by kernel_rfl) (fun _ _ _ h => h) (Or.inl ⟨by rfl, ?_⟩) ?_ ?_
  rotate_left
  · intro w'
    go_simp
    with_reducible rfl
  rotate_left
  · simp only [Act.put, List.setIfInBounds_toArray, List.set_cons_zero, List.set_cons_succ]
    rfl
  refine last_ (i := 11) (N := none) #[true, true, true, true, true, true, true, true, true, true, true, true] rfl rfl (by kernel_rfl) (by decide) (fun K hK => ?_)
  refine skip_ (w1 := ?_) (by rfl) rfl ?_ ?_
  rotate_left
  · go_simp
    rfl
  refine hK.out _ _ ?_
  clear hK K
  refine done_ (by kernel_rfl) ?_
  have h4 := hHeld.put 3 (if b < goneV now e then b else goneV now e)
  have hm : (if b < goneV now e then b else goneV now e) = min (goneV now e) b := by split <;> omega
  have h5 : At w0 w g cap 6 w.heap.size now [a, b, c, min (goneV now e) b, e, f] (w3.setCell ⟨g, 3, none⟩ (.int .i64 (if b < goneV now e then b else goneV now e))) := by rw [← hm]; exact h4
  generalize w3.setCell ⟨g, 3, none⟩ (.int .i64 (if b < goneV now e then b else goneV now e)) = w4 at h5 ⊢
  obtain ⟨d0, d1⟩ := h5.box
  have d2 := (h5.cell 1 (by omega)).1
  clear h4 hm x3 y3 hHeld hS
  go_wp2
  all_goals (go_ret; exact ⟨rfl, h5.has⟩)

theorem gone_in (now s : Int) : -2147483648 ≤ goneV now s ∧ goneV now s ≤ 2147483647 := by unfold goneV wrap32; omega
theorem At.count {w0 w W : World} {g cap B : Nat} {a b c d e f now : Int} (h : At w0 w g cap 6 B now [a, b, c, d, e, f] W) (n0 : -2147483648 ≤ now) (n1 : now ≤ 2147483647) (s0 : -2147483648 ≤ e) (s1 : e ≤ 2147483647) :
    Calls Tryd.prog 50 #[.agg #[.slice (some ⟨g, 0, none⟩) 6 cap, .int .i64 now]] W fun x W' => x = .returned (.bool (decide (b ≤ goneV now e))) ∧ At w0 w g cap 6 B now [a, b, c, min (goneV now e) b, e, f] W' :=
  (count_any now h.1.self n0 n1 s0 s1).mono fun _ _ ⟨he, h'⟩ => ⟨he, h.after h'⟩

end Go.Proofs.YtefflkmegodafaaDoor.PBlockKeeps
