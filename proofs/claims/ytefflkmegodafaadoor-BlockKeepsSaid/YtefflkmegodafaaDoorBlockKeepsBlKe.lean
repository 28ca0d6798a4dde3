/-
  The walk of the law BlockKeeps.
-/
import Derived.Test.YtefflkmegodafaaDoorBlockKeepsBlO
namespace Go.Proofs.YtefflkmegodafaaDoor.PBlockKeeps
open Go.RowKit Go.Proofs.YtefflkmegodafaaDoorW.PrintWords Go.Proofs.YtefflkmegodafaaDoorW.PrintLast Go.Proofs.YtefflkmegodafaaDoorW.PrintMore
attribute [local go_sem] Oper.semAt_some

/-- a row of a's block is not b's -/
theorem Row.ne {b' g g' c' : Nat} {W : World} {l' : List Int} (h' : Row b' W g' c' l') (hb : g < b') : g ≠ g' := by have := h'.ge; omega
theorem u2 (x : Int) : Bit (IntKind.i64.wrap ((IntKind.u64.wrap x).tmod 2)) := by
  have e : IntKind.u64.wrap x = x % 18446744073709551616 := by simp [IntKind.wrap, IntKind.signed, IntKind.bits]
  have h0 : 0 ≤ x % 18446744073709551616 := by omega
  rw [e, Int.tmod_eq_emod_of_nonneg h0, IntKind.wrap_i64]
  unfold Bit
  omega
/-- what holds at the head of a round of BlockKeeps -/
def KeepsAt (B : Nat) (w : World) (v1 v2 a b : Value) (W : World) : Prop :=
  ∃ g1 c1 g2 c2 : Nat, ∃ s1 r1 q1 s2 r2 q2 : Int, v1 = .slice (some ⟨g1, 0, none⟩) 3 c1 ∧ v2 = .slice (some ⟨g2, 0, none⟩) 3 c2 ∧ a = .int .i64 q1 ∧ b = .int .i64 q2 ∧ Row B W g1 c1 [s1, r1, q1] ∧ Row B W g2 c2 [s2, r2, q2] ∧ g1 ≠ g2 ∧ Bit q1 ∧ Bit q2 ∧ Below B w W

set_option maxRecDepth 100000 in
set_option maxHeartbeats 4000000 in
theorem keeps_any (A1 : Option Addr) (n1 cp1 : Nat) (xs : List Int) (A2 : Option Addr) (n2 cp2 : Nat) (ys : List Int) (w : World) (hx : ReadsInt w .i64 A1 n1 xs) (hy : ReadsInt w .i64 A2 n2 ys) :
    Calls Tryd.prog 6 #[.slice A1 n1 cp1, .slice A2 n2 cp2] w fun e w' => e = .returned (.bool true) ∧ Below w.heap.size w w' := by
  have HX := Lib.hid hx
  have HY := Lib.hid hy
  clear hx hy
  go_enter Tryd.func6, Tryd.ntmps6
  go_wp2_with fail
  refine (works_any _).mono ?_
  rintro e w1 ⟨rfl, hb⟩
  have HB := Lib.hid hb
  clear hb
  go_wp2_with fail
  have h1 : Row w.heap.size (w1.alloc (.cells #[.int .i64 0, .int .i64 0, .int .i64 0] 2)) w1.heap.size 3 [0, 0, 0] := Row.lit w1 [0, 0, 0] HB.out.size (by decide)
  have b1 := HB.out.alloc HB.out.size (.cells #[.int .i64 0, .int .i64 0, .int .i64 0] 2)
  have z1 : (w1.alloc (.cells #[.int .i64 0, .int .i64 0, .int .i64 0] 2)).heap.size = w1.heap.size + 1 := by simp
  generalize w1.alloc (.cells #[.int .i64 0, .int .i64 0, .int .i64 0] 2) = w2 at h1 b1 z1 ⊢
  rw [← z1]
  have h2 : Row w.heap.size (w2.alloc (.cells #[.int .i64 0, .int .i64 0, .int .i64 0] 2)) w2.heap.size 3 [0, 0, 0] := Row.lit w2 [0, 0, 0] b1.size (by decide)
  have h3 := h1.alloc (.cells #[.int .i64 0, .int .i64 0, .int .i64 0] 2)
  have b2 := b1.alloc b1.size (.cells #[.int .i64 0, .int .i64 0, .int .i64 0] 2)
  have hne : w1.heap.size ≠ w2.heap.size := by omega
  have HS : Hid (KeepsAt w.heap.size w (.slice (some ⟨w1.heap.size, 0, none⟩) 3 3) (.slice (some ⟨w2.heap.size, 0, none⟩) 3 3) (.int .i64 0) (.int .i64 0) (w2.alloc (.cells #[.int .i64 0, .int .i64 0, .int .i64 0] 2))) :=
    Lib.hid ⟨_, _, _, _, _, _, _, _, _, _, rfl, rfl, rfl, rfl, h3, h2, hne, bit0, bit0, b2⟩
  clear h1 h2 h3 b1 b2 z1 HB hne
  go_loopw [5, 6, 7, 8, 9] (fun v1 v2 a b i wr => ∃ k : Nat, k ≤ 100 ∧ i = .int .i64 k ∧ KeepsAt w.heap.size w v1 v2 a b wr) (fun _ _ _ _ i _ => 100 - (intOf i).toNat)
  case atStart => exact ⟨0, by omega, rfl, HS.out⟩
  case round =>
    clear HS
    obtain ⟨k, hk, rfl, g1, c1, g2, c2, s1, r1, q1, s2, r2, q2, rfl, rfl, rfl, rfl, hr1, hr2, hne, hq1, hq2, hB⟩ := hrel
    rename World => wr
    have HR1 := Lib.hid hr1
    have HR2 := Lib.hid hr2
    have HQ1 := Lib.hid hq1
    have HQ2 := Lib.hid hq2
    have HB := Lib.hid hB
    have HN := Lib.hid hne
    clear hr1 hr2 hq1 hq2 hB hne
    by_cases a1 : k < n1
    · by_cases a2 : k < n2
      · by_cases a3 : (k : Int) < 100
        · obtain ⟨ad1, rfl, x1⟩ := HX.out.at_ (k : Int) (by omega) (by omega)
          obtain ⟨ad2, rfl, x2⟩ := HY.out.at_ (k : Int) (by omega) (by omega)
          have y1 := pw_cell_below HB.out x1
          have y2 := pw_cell_below HB.out x2
          rw [Int.toNat_natCast] at y1 y2
          clear x1 x2
          go_wp2_with fail
          refine start_ (n := 16) (S := fun w' => w'.cell? (ad1.add k) = some (.int .i64 (rd xs k)) ∧ w'.cell? (ad2.add k) = some (.int .i64 (rd ys k))) (ds := []) #[false, false, false, false, false, false, false, false, false, false, false, false, false, false, false, false] (by kernel_rfl) rfl rfl ⟨y1, y2⟩ (fun hHeld => ?_)
          refine pure_ (i := 0) (N := some 34) (v := ?_) (a' := ?_) #[true, false, false, false, false, false, false, false, false, false, false, false, false, false, false, false] rfl rfl (by kernel_rfl) (fun _ _ _ h => h) (Or.inl ⟨by rfl, ?_⟩) ?_ ?_
          rotate_left
          · intro w'
            go_simp
            with_reducible rfl
          rotate_left
          · simp only [Act.put, List.setIfInBounds_toArray, List.set_cons_zero, List.set_cons_succ]
            rfl
          refine pure_ (i := 1) (N := some 35) (v := ?_) (a' := ?_) #[true, true, false, false, false, false, false, false, false, false, false, false, false, false, false, false] rfl rfl (by kernel_rfl) (fun _ _ _ h => h) (Or.inl ⟨by rfl, ?_⟩) ?_ ?_
          rotate_left
          · intro w'
            go_simp
            with_reducible rfl
          rotate_left
          · simp only [Act.put, List.setIfInBounds_toArray, List.set_cons_zero, List.set_cons_succ]
            rfl
          refine pure_ (i := 2) (N := some 36) (v := ?_) (a' := ?_) #[true, true, true, false, false, false, false, false, false, false, false, false, false, false, false, false] rfl rfl (by kernel_rfl) (fun _ _ _ h => h) (Or.inl ⟨by rfl, ?_⟩) ?_ ?_
          rotate_left
          · intro w'
            go_simp
            with_reducible rfl
          rotate_left
          · simp only [Act.put, List.setIfInBounds_toArray, List.set_cons_zero, List.set_cons_succ]
            rfl
          refine take_ (i := 3) (N := some 37) (v := ?_) (a' := ?_) #[true, true, true, true, false, false, false, false, false, false, false, false, false, false, false, false] rfl rfl (by kernel_rfl) (fun _ _ _ h => h) (Or.inl ⟨by rfl, ?_⟩) hHeld ?_ ?_
          rotate_left
          · rintro w' ⟨z0, z1⟩
            go_simp
            with_reducible rfl
          rotate_left
          · simp only [Act.put, List.setIfInBounds_toArray, List.set_cons_zero, List.set_cons_succ]
            rfl
          refine pure_ (i := 4) (N := some 38) (v := ?_) (a' := ?_) #[true, true, true, true, true, false, false, false, false, false, false, false, false, false, false, false] rfl rfl (by kernel_rfl) (fun _ _ _ h => h) (Or.inl ⟨by rfl, ?_⟩) ?_ ?_
          rotate_left
          · intro w'
            go_simp
            with_reducible rfl
          rotate_left
          · simp only [Act.put, List.setIfInBounds_toArray, List.set_cons_zero, List.set_cons_succ]
            rfl
          refine pure_ (i := 5) (N := some 39) (v := ?_) (a' := ?_) #[true, true, true, true, true, true, false, false, false, false, false, false, false, false, false, false] rfl rfl (by kernel_rfl) (fun _ _ _ h => h) (Or.inl ⟨by rfl, ?_⟩) ?_ ?_
          rotate_left
          · intro w'
            go_simp
            with_reducible rfl
          rotate_left
          · simp only [Act.put, List.setIfInBounds_toArray, List.set_cons_zero, List.set_cons_succ]
            rfl
          refine pure_ (i := 6) (N := some 40) (v := ?_) (a' := ?_) #[true, true, true, true, true, true, true, false, false, false, false, false, false, false, false, false] rfl rfl (by kernel_rfl) (fun _ _ _ h => h) (Or.inl ⟨by rfl, ?_⟩) ?_ ?_
          rotate_left
          · intro w'
            go_simp
            with_reducible rfl
          rotate_left
          · simp only [Act.put, List.setIfInBounds_toArray, List.set_cons_zero, List.set_cons_succ]
            rfl
          refine pure_ (i := 7) (N := some 41) (v := ?_) (a' := ?_) #[true, true, true, true, true, true, true, true, false, false, false, false, false, false, false, false] rfl rfl (by kernel_rfl) (fun _ _ _ h => h) (Or.inl ⟨by rfl, ?_⟩) ?_ ?_
          rotate_left
          · intro w'
            go_simp
            with_reducible rfl
          rotate_left
          · simp only [Act.put, List.setIfInBounds_toArray, List.set_cons_zero, List.set_cons_succ]
            rfl
          refine pure_ (i := 8) (N := some 42) (v := ?_) (a' := ?_) #[true, true, true, true, true, true, true, true, true, false, false, false, false, false, false, false] rfl rfl (by kernel_rfl) (fun _ _ _ h => h) (Or.inl ⟨by rfl, ?_⟩) ?_ ?_
          rotate_left
          · intro w'
            go_simp
            with_reducible rfl
          rotate_left
          · simp only [Act.put, List.setIfInBounds_toArray, List.set_cons_zero, List.set_cons_succ]
            rfl
          refine pure_ (i := 9) (N := some 43) (v := ?_) (a' := ?_) #[true, true, true, true, true, true, true, true, true, true, false, false, false, false, false, false] rfl rfl (by kernel_rfl) (fun _ _ _ h => h) (Or.inl ⟨by rfl, ?_⟩) ?_ ?_
          rotate_left
          · intro w'
            go_simp
            with_reducible rfl
          rotate_left
          · simp only [Act.put, List.setIfInBounds_toArray, List.set_cons_zero, List.set_cons_succ]
            rfl
          refine take_ (i := 10) (N := some 44) (v := ?_) (a' := ?_) #[true, true, true, true, true, true, true, true, true, true, true, false, false, false, false, false] rfl rfl (by kernel_rfl) (fun _ _ _ h => h) (Or.inl ⟨by rfl, ?_⟩) hHeld ?_ ?_
          rotate_left
          · rintro w' ⟨z0, z1⟩
            go_simp
            with_reducible rfl
          rotate_left
          · simp only [Act.put, List.setIfInBounds_toArray, List.set_cons_zero, List.set_cons_succ]
            rfl
          refine pure_ (i := 11) (N := some 45) (v := ?_) (a' := ?_) #[true, true, true, true, true, true, true, true, true, true, true, true, false, false, false, false] rfl rfl (by kernel_rfl) (fun _ _ _ h => h) (Or.inl ⟨by rfl, ?_⟩) ?_ ?_
          rotate_left
          · intro w'
            go_simp
            with_reducible rfl
          rotate_left
          · simp only [Act.put, List.setIfInBounds_toArray, List.set_cons_zero, List.set_cons_succ]
            rfl
          refine pure_ (i := 12) (N := some 46) (v := ?_) (a' := ?_) #[true, true, true, true, true, true, true, true, true, true, true, true, true, false, false, false] rfl rfl (by kernel_rfl) (fun _ _ _ h => h) (Or.inl ⟨by rfl, ?_⟩) ?_ ?_
          rotate_left
          · intro w'
            go_simp
            with_reducible rfl
          rotate_left
          · simp only [Act.put, List.setIfInBounds_toArray, List.set_cons_zero, List.set_cons_succ]
            rfl
          refine pure_ (i := 13) (N := some 47) (v := ?_) (a' := ?_) #[true, true, true, true, true, true, true, true, true, true, true, true, true, true, false, false] rfl rfl (by kernel_rfl) (fun _ _ _ h => h) (Or.inl ⟨by rfl, ?_⟩) ?_ ?_
          rotate_left
          · intro w'
            go_simp
            with_reducible rfl
          rotate_left
          · simp only [Act.put, List.setIfInBounds_toArray, List.set_cons_zero, List.set_cons_succ]
            rfl
          refine pure_ (i := 14) (N := some 10) (v := ?_) (a' := ?_) #[true, true, true, true, true, true, true, true, true, true, true, true, true, true, true, false] rfl rfl (by kernel_rfl) (fun _ _ _ h => h) (Or.inl ⟨by rfl, ?_⟩) ?_ ?_
          rotate_left
          · intro w'
            go_simp
            with_reducible rfl
          rotate_left
          · simp only [Act.put, List.setIfInBounds_toArray, List.set_cons_zero, List.set_cons_succ]
            rfl
          refine pure_ (i := 15) (N := some 11) (v := ?_) (a' := ?_) #[true, true, true, true, true, true, true, true, true, true, true, true, true, true, true, true] rfl rfl (by kernel_rfl) (fun _ _ _ h => h) (Or.inl ⟨by rfl, ?_⟩) ?_ ?_
          rotate_left
          · intro w'
            go_simp
            with_reducible rfl
          rotate_left
          · simp only [Act.put, List.setIfInBounds_toArray, List.set_cons_zero, List.set_cons_succ]
            rfl
          refine done_ (by kernel_rfl) ?_
          have bs := u2 (rd xs k)
          have br := u2 (rd ys k)
          generalize IntKind.i64.wrap ((IntKind.u64.wrap (rd xs ↑k)).tmod 2) = s at bs ⊢
          generalize IntKind.i64.wrap ((IntKind.u64.wrap (rd ys ↑k)).tmod 2) = r at br ⊢
          clear hHeld y1 y2
          have f1 := HR1.out.cell 0 (by simp)
          have f2 := HR1.out.cell 1 (by simp)
          have f3 := HR2.out.cell 0 (by simp)
          have f4 := HR2.out.cell 1 (by simp)
          obtain ⟨p1, p2⟩ := f1
          obtain ⟨p3, p4⟩ := f2
          obtain ⟨p5, p6⟩ := f3
          obtain ⟨p7, p8⟩ := f4
          have n3 := HN.out
          have n4 := HN.out.symm
          rcases bs with rfl | rfl <;> rcases br with rfl | rfl
          · have P1 := Lib.hid ((((HR1.out.put 0 0).put 1 0).far 0 (.int .i64 0) n4).far 1 (.int .i64 0) n4).drew
            have P2 := Lib.hid ((((HR2.out.far 0 (.int .i64 0) n3).far 1 (.int .i64 0) n3).put 0 0).put 1 0).drew
            have B4 := Lib.hid ((((HB.out.setCell (p := ⟨g1, 0, none⟩) HR1.out.ge (.int .i64 0)).setCell (p := ⟨g1, 1, none⟩) HR1.out.ge (.int .i64 0)).setCell (p := ⟨g2, 0, none⟩) HR2.out.ge (.int .i64 0)).setCell (p := ⟨g2, 1, none⟩) HR2.out.ge (.int .i64 0)).drew
            go_wp2_with fail
            clear p1 p2 p3 p4 p5 p6 p7 p8 n3 n4 HB HR1 HR2 HN
            refine (step_row (does_sr bit0 bit0 HQ1.out) (by simp) (by simp) (by decide) (by decide) (wrong_three (by omega) bit0 bit0 HQ1.out) P1.out).mono ?_
            rintro x w3 ⟨g3, c3, rfl, hr3, hb3⟩
            have e3 : srV 0 0 q1 = q1 := by simp [srV]
            rw [e3] at hr3
            have Q1 := Lib.hid (hr3.lower B4.out.size)
            have P3 := Lib.hid (P2.out.below hb3)
            have B5 := Lib.hid (B4.out.trans (hb3.mono B4.out.size))
            clear hr3 hb3 P1 P2 B4 e3
            go_wp2_with fail
            refine (step_row (does_rs bit0 bit0 HQ2.out) (by simp) (by simp) (by decide) (by decide) (wrong_three (by omega) bit0 bit0 HQ2.out) P3.out).mono ?_
            rintro x w4 ⟨g4, c4, rfl, hr4, hb4⟩
            have e4 : rsV 0 0 q2 = q2 := by simp [rsV]
            rw [e4] at hr4
            have Q2 := Lib.hid (hr4.lower B5.out.size)
            have N4 := Lib.hid (Row.ne hr4 Q1.out.lt)
            have Q3 := Lib.hid (Q1.out.below hb4)
            have B6 := Lib.hid (B5.out.trans (hb4.mono B5.out.size))
            have t1 := (Q3.out.cell 2 (by simp)).1
            have t2 := (Q2.out.cell 2 (by simp)).1
            clear hr4 hb4 Q1 P3 B5 e4
            go_wp2
            go_roundw
            case rel => exact ⟨k + 1, by omega, by go_num, g3, c3, g4, c4, _, _, _, _, _, _, rfl, rfl, rfl, rfl, Q3.out, Q2.out, N4.out, HQ1.out, HQ2.out, B6.out⟩
            case measure => simp [intOf]; omega
          · have P1 := Lib.hid ((((HR1.out.put 0 0).put 1 1).far 0 (.int .i64 0) n4).far 1 (.int .i64 1) n4).drew
            have P2 := Lib.hid ((((HR2.out.far 0 (.int .i64 0) n3).far 1 (.int .i64 1) n3).put 0 0).put 1 1).drew
            have B4 := Lib.hid ((((HB.out.setCell (p := ⟨g1, 0, none⟩) HR1.out.ge (.int .i64 0)).setCell (p := ⟨g1, 1, none⟩) HR1.out.ge (.int .i64 1)).setCell (p := ⟨g2, 0, none⟩) HR2.out.ge (.int .i64 0)).setCell (p := ⟨g2, 1, none⟩) HR2.out.ge (.int .i64 1)).drew
            go_wp2_with fail
            clear p1 p2 p3 p4 p5 p6 p7 p8 n3 n4 HB HR1 HR2 HN
            refine (step_row (does_sr bit0 bit1 HQ1.out) (by simp) (by simp) (by decide) (by decide) (wrong_three (by omega) bit0 bit1 HQ1.out) P1.out).mono ?_
            rintro x w3 ⟨g3, c3, rfl, hr3, hb3⟩
            have e3 : srV 0 1 q1 = 0 := by simp [srV]
            rw [e3] at hr3
            have Q1 := Lib.hid (hr3.lower B4.out.size)
            have P3 := Lib.hid (P2.out.below hb3)
            have B5 := Lib.hid (B4.out.trans (hb3.mono B4.out.size))
            clear hr3 hb3 P1 P2 B4 e3
            go_wp2_with fail
            refine (step_row (does_rs bit0 bit1 HQ2.out) (by simp) (by simp) (by decide) (by decide) (wrong_three (by omega) bit0 bit1 HQ2.out) P3.out).mono ?_
            rintro x w4 ⟨g4, c4, rfl, hr4, hb4⟩
            have e4 : rsV 0 1 q2 = 0 := by simp [rsV]
            rw [e4] at hr4
            have Q2 := Lib.hid (hr4.lower B5.out.size)
            have N4 := Lib.hid (Row.ne hr4 Q1.out.lt)
            have Q3 := Lib.hid (Q1.out.below hb4)
            have B6 := Lib.hid (B5.out.trans (hb4.mono B5.out.size))
            have t1 := (Q3.out.cell 2 (by simp)).1
            have t2 := (Q2.out.cell 2 (by simp)).1
            clear hr4 hb4 Q1 P3 B5 e4
            go_wp2
            go_roundw
            case rel => exact ⟨k + 1, by omega, by go_num, g3, c3, g4, c4, _, _, _, _, _, _, rfl, rfl, rfl, rfl, Q3.out, Q2.out, N4.out, bit0, bit0, B6.out⟩
            case measure => simp [intOf]; omega
          · have P1 := Lib.hid ((((HR1.out.put 0 1).put 1 0).far 0 (.int .i64 1) n4).far 1 (.int .i64 0) n4).drew
            have P2 := Lib.hid ((((HR2.out.far 0 (.int .i64 1) n3).far 1 (.int .i64 0) n3).put 0 1).put 1 0).drew
            have B4 := Lib.hid ((((HB.out.setCell (p := ⟨g1, 0, none⟩) HR1.out.ge (.int .i64 1)).setCell (p := ⟨g1, 1, none⟩) HR1.out.ge (.int .i64 0)).setCell (p := ⟨g2, 0, none⟩) HR2.out.ge (.int .i64 1)).setCell (p := ⟨g2, 1, none⟩) HR2.out.ge (.int .i64 0)).drew
            go_wp2_with fail
            clear p1 p2 p3 p4 p5 p6 p7 p8 n3 n4 HB HR1 HR2 HN
            refine (step_row (does_sr bit1 bit0 HQ1.out) (by simp) (by simp) (by decide) (by decide) (wrong_three (by omega) bit1 bit0 HQ1.out) P1.out).mono ?_
            rintro x w3 ⟨g3, c3, rfl, hr3, hb3⟩
            have e3 : srV 1 0 q1 = 1 := by simp [srV]
            rw [e3] at hr3
            have Q1 := Lib.hid (hr3.lower B4.out.size)
            have P3 := Lib.hid (P2.out.below hb3)
            have B5 := Lib.hid (B4.out.trans (hb3.mono B4.out.size))
            clear hr3 hb3 P1 P2 B4 e3
            go_wp2_with fail
            refine (step_row (does_rs bit1 bit0 HQ2.out) (by simp) (by simp) (by decide) (by decide) (wrong_three (by omega) bit1 bit0 HQ2.out) P3.out).mono ?_
            rintro x w4 ⟨g4, c4, rfl, hr4, hb4⟩
            have e4 : rsV 1 0 q2 = 1 := by simp [rsV]
            rw [e4] at hr4
            have Q2 := Lib.hid (hr4.lower B5.out.size)
            have N4 := Lib.hid (Row.ne hr4 Q1.out.lt)
            have Q3 := Lib.hid (Q1.out.below hb4)
            have B6 := Lib.hid (B5.out.trans (hb4.mono B5.out.size))
            have t1 := (Q3.out.cell 2 (by simp)).1
            have t2 := (Q2.out.cell 2 (by simp)).1
            clear hr4 hb4 Q1 P3 B5 e4
            go_wp2
            go_roundw
            case rel => exact ⟨k + 1, by omega, by go_num, g3, c3, g4, c4, _, _, _, _, _, _, rfl, rfl, rfl, rfl, Q3.out, Q2.out, N4.out, bit1, bit1, B6.out⟩
            case measure => simp [intOf]; omega
          · have P1 := Lib.hid ((((HR1.out.put 0 1).put 1 1).far 0 (.int .i64 1) n4).far 1 (.int .i64 1) n4).drew
            have P2 := Lib.hid ((((HR2.out.far 0 (.int .i64 1) n3).far 1 (.int .i64 1) n3).put 0 1).put 1 1).drew
            have B4 := Lib.hid ((((HB.out.setCell (p := ⟨g1, 0, none⟩) HR1.out.ge (.int .i64 1)).setCell (p := ⟨g1, 1, none⟩) HR1.out.ge (.int .i64 1)).setCell (p := ⟨g2, 0, none⟩) HR2.out.ge (.int .i64 1)).setCell (p := ⟨g2, 1, none⟩) HR2.out.ge (.int .i64 1)).drew
            go_wp2_with fail
            clear p1 p2 p3 p4 p5 p6 p7 p8 n3 n4 HB HR1 HR2 HN
            refine (step_row (does_sr bit1 bit1 HQ1.out) (by simp) (by simp) (by decide) (by decide) (wrong_three (by omega) bit1 bit1 HQ1.out) P1.out).mono ?_
            rintro x w3 ⟨g3, c3, rfl, hr3, hb3⟩
            have e3 : srV 1 1 q1 = 1 := by simp [srV]
            rw [e3] at hr3
            have Q1 := Lib.hid (hr3.lower B4.out.size)
            have P3 := Lib.hid (P2.out.below hb3)
            have B5 := Lib.hid (B4.out.trans (hb3.mono B4.out.size))
            clear hr3 hb3 P1 P2 B4 e3
            go_wp2_with fail
            refine (step_row (does_rs bit1 bit1 HQ2.out) (by simp) (by simp) (by decide) (by decide) (wrong_three (by omega) bit1 bit1 HQ2.out) P3.out).mono ?_
            rintro x w4 ⟨g4, c4, rfl, hr4, hb4⟩
            have e4 : rsV 1 1 q2 = 0 := by simp [rsV]
            rw [e4] at hr4
            have Q2 := Lib.hid (hr4.lower B5.out.size)
            have N4 := Lib.hid (Row.ne hr4 Q1.out.lt)
            have Q3 := Lib.hid (Q1.out.below hb4)
            have B6 := Lib.hid (B5.out.trans (hb4.mono B5.out.size))
            have t1 := (Q3.out.cell 2 (by simp)).1
            have t2 := (Q2.out.cell 2 (by simp)).1
            clear hr4 hb4 Q1 P3 B5 e4
            go_wp2
            go_roundw
            case rel => exact ⟨k + 1, by omega, by go_num, g3, c3, g4, c4, _, _, _, _, _, _, rfl, rfl, rfl, rfl, Q3.out, Q2.out, N4.out, bit1, bit0, B6.out⟩
            case measure => simp [intOf]; omega
        · go_wp2
          go_ret
          exact ⟨rfl, HB.out⟩
      · go_wp2
        go_ret
        exact ⟨rfl, HB.out⟩
    · go_wp2
      go_ret
      exact ⟨rfl, HB.out⟩
end Go.Proofs.YtefflkmegodafaaDoor.PBlockKeeps
