/-
  The walk of the law BlockTwice.
-/
import Derived.Test.YtefflkmegodafaaDoorBlockKeepsBlTc
namespace Go.Proofs.YtefflkmegodafaaDoor.PBlockKeeps
open Go.RowKit Go.Proofs.YtefflkmegodafaaDoorW.PrintWords Go.Proofs.YtefflkmegodafaaDoorW.PrintLast Go.Proofs.YtefflkmegodafaaDoorW.PrintMore
attribute [local go_sem] Oper.semAt_some

theorem C_ints {w : World} {A : Option Addr} {n : Nat} {l : List Int} (h : ReadsInt w .i64 A n l) : Kd.C kI w A n l := Kd.C_of_reads (d := 0) h
set_option maxRecDepth 100000 in
theorem same_any (l : List Int) (hl : l.length ≤ 6) (A1 : Option Addr) (c1 : Nat) (A2 : Option Addr) (c2 : Nat) (w : World) (h1 : Kd.C kI w A1 l.length l) (h2 : Kd.C kI w A2 l.length l) :
    Calls Tryd.prog 12 #[.slice A1 l.length c1, .slice A2 l.length c2] w fun e w' => e = .returned (.bool true) ∧ Below w.heap.size w w' := by
  have H1 := Lib.hid h1
  have H2 := Lib.hid h2
  clear h1 h2
  go_enter Tryd.func12, Tryd.ntmps12
  go_wp2_with fail
  go_loopw [5] (fun i wr => ∃ k : Nat, k ≤ l.length ∧ i = .int .i64 k ∧ Below w.heap.size w wr) (fun i _ => l.length - (intOf i).toNat)
  case atStart => exact ⟨0, by omega, rfl, Below.refl _ _⟩
  case round =>
    obtain ⟨k, hk, rfl, hB⟩ := hrel
    rename World => wr
    have HB := Lib.hid hB
    clear hB
    by_cases hlt : k < l.length
    · obtain ⟨a1, rfl, x1⟩ := Kd.at_int H1.out (k : Int) (by omega) (by omega)
      obtain ⟨a2, rfl, x2⟩ := Kd.at_int H2.out (k : Int) (by omega) (by omega)
      have y1 := pw_cell_below HB.out x1
      have y2 := pw_cell_below HB.out x2
      rw [Int.toNat_natCast] at y1 y2
      clear x1 x2
      go_wp2_with fail
      refine start_ (n := 9) (S := fun w' => w'.cell? (a1.add k) = some (.int .i64 (rd l k)) ∧ w'.cell? (a2.add k) = some (.int .i64 (rd l k))) (ds := []) #[false, false, false, false, false, false, false, false, false] (by kernel_rfl) rfl rfl ⟨y1, y2⟩ (fun hHeld => ?_)
      refine pure_ (i := 0) (N := some 17) (v := ?_) (a' := ?_) #[true, false, false, false, false, false, false, false, false] rfl rfl (by kernel_rfl) (fun _ _ _ h => h) (Or.inl ⟨by rfl, ?_⟩) ?_ ?_
      rotate_left
      · intro w'
        go_simp
        with_reducible rfl
      rotate_left
      · simp only [Act.put, List.setIfInBounds_toArray, List.set_cons_zero, List.set_cons_succ]
        rfl
      refine pure_ (i := 1) (N := some 18) (v := ?_) (a' := ?_) #[true, true, false, false, false, false, false, false, false] rfl rfl (by kernel_rfl) (fun _ _ _ h => h) (Or.inl ⟨by rfl, ?_⟩) ?_ ?_
      rotate_left
      · intro w'
        go_simp
        with_reducible rfl
      rotate_left
      · simp only [Act.put, List.setIfInBounds_toArray, List.set_cons_zero, List.set_cons_succ]
        rfl
      refine pure_ (i := 2) (N := some 19) (v := ?_) (a' := ?_) #[true, true, true, false, false, false, false, false, false] rfl rfl (by kernel_rfl) (fun _ _ _ h => h) (Or.inl ⟨by rfl, ?_⟩) ?_ ?_
      rotate_left
      · intro w'
        go_simp
        with_reducible rfl
      rotate_left
      · simp only [Act.put, List.setIfInBounds_toArray, List.set_cons_zero, List.set_cons_succ]
        rfl
      refine take_ (i := 3) (N := some 20) (v := ?_) (a' := ?_) #[true, true, true, true, false, false, false, false, false] rfl rfl (by kernel_rfl) (fun _ _ _ h => h) (Or.inl ⟨by rfl, ?_⟩) hHeld ?_ ?_
      rotate_left
      · rintro w' ⟨z0, z1⟩
        go_simp
        with_reducible rfl
      rotate_left
      · simp only [Act.put, List.setIfInBounds_toArray, List.set_cons_zero, List.set_cons_succ]
        rfl
      refine pure_ (i := 4) (N := some 21) (v := ?_) (a' := ?_) #[true, true, true, true, true, false, false, false, false] rfl rfl (by kernel_rfl) (fun _ _ _ h => h) (Or.inl ⟨by rfl, ?_⟩) ?_ ?_
      rotate_left
      · intro w'
        go_simp
        with_reducible rfl
      rotate_left
      · simp only [Act.put, List.setIfInBounds_toArray, List.set_cons_zero, List.set_cons_succ]
        rfl
      refine pure_ (i := 5) (N := some 22) (v := ?_) (a' := ?_) #[true, true, true, true, true, true, false, false, false] rfl rfl (by kernel_rfl) (fun _ _ _ h => h) (Or.inl ⟨by rfl, ?_⟩) ?_ ?_
      rotate_left
      · intro w'
        go_simp
        with_reducible rfl
      rotate_left
      · simp only [Act.put, List.setIfInBounds_toArray, List.set_cons_zero, List.set_cons_succ]
        rfl
      refine pure_ (i := 6) (N := some 23) (v := ?_) (a' := ?_) #[true, true, true, true, true, true, true, false, false] rfl rfl (by kernel_rfl) (fun _ _ _ h => h) (Or.inl ⟨by rfl, ?_⟩) ?_ ?_
      rotate_left
      · intro w'
        go_simp
        with_reducible rfl
      rotate_left
      · simp only [Act.put, List.setIfInBounds_toArray, List.set_cons_zero, List.set_cons_succ]
        rfl
      refine take_ (i := 7) (N := some 24) (v := ?_) (a' := ?_) #[true, true, true, true, true, true, true, true, false] rfl rfl (by kernel_rfl) (fun _ _ _ h => h) (Or.inl ⟨by rfl, ?_⟩) hHeld ?_ ?_
      rotate_left
      · rintro w' ⟨z0, z1⟩
        go_simp
        with_reducible rfl
      rotate_left
      · simp only [Act.put, List.setIfInBounds_toArray, List.set_cons_zero, List.set_cons_succ]
        rfl
      refine pure_ (i := 8) (N := some 25) (v := ?_) (a' := ?_) #[true, true, true, true, true, true, true, true, true] rfl rfl (by kernel_rfl) (fun _ _ _ h => h) (Or.inl ⟨by rfl, ?_⟩) ?_ ?_
      rotate_left
      · intro w'
        go_simp
        with_reducible rfl
      rotate_left
      · simp only [Act.put, List.setIfInBounds_toArray, List.set_cons_zero, List.set_cons_succ]
        rfl
      refine done_ (by kernel_rfl) ?_
      clear hHeld y1 y2
      go_wp2
      go_roundw
      case rel => exact ⟨k + 1, by omega, by go_num, HB.out.drew⟩
      case measure => simp [intOf]; omega
    · obtain rfl : k = l.length := by omega
      go_wp2
      go_ret
      exact ⟨rfl, HB.out⟩

/-! the plain law -/
section
variable {r0 i0 r1 i1 r2 i2 r3 i3 : Nat} {k : Int} {M : Nat}
theorem runF_nil (l : List Int) (bs : List (Int × List Int)) (h : (runF r0 i0 r1 i1 r2 i2 r3 i3 k M l bs).2 ≠ 0) : (runF r0 i0 r1 i1 r2 i2 r3 i3 k M l bs).1 = [] := by
  induction bs generalizing l with
  | nil => simp [runF] at h
  | cons x bs ih =>
    unfold runF at h ⊢
    split
    · rfl
    · rename_i h1
      rw [if_neg h1] at h
      split
      · rename_i h2
        rw [if_pos h2] at h
        exact ih _ h
      · rfl
theorem runF_append (l : List Int) (us bs : List (Int × List Int)) : runF r0 i0 r1 i1 r2 i2 r3 i3 k M l (us ++ bs) = if (runF r0 i0 r1 i1 r2 i2 r3 i3 k M l us).2 = 0 then runF r0 i0 r1 i1 r2 i2 r3 i3 k M (runF r0 i0 r1 i1 r2 i2 r3 i3 k M l us).1 bs else ([], (runF r0 i0 r1 i1 r2 i2 r3 i3 k M l us).2) := by
  induction us generalizing l with
  | nil => simp [runF]
  | cons x us ih =>
    rw [List.cons_append]
    by_cases h1 : M < x.2.length
    · have e : ∀ cs, runF r0 i0 r1 i1 r2 i2 r3 i3 k M l (x :: cs) = ([], 4) := fun cs => by rw [runF, if_pos h1]
      rw [e, e]
      simp
    · by_cases h2 : (stepF r0 i0 r1 i1 r2 i2 r3 i3 k x.1 (over x.2 l)).2 = 0
      · have e : ∀ cs, runF r0 i0 r1 i1 r2 i2 r3 i3 k M l (x :: cs) = runF r0 i0 r1 i1 r2 i2 r3 i3 k M (stepF r0 i0 r1 i1 r2 i2 r3 i3 k x.1 (over x.2 l)).1 cs := fun cs => by rw [runF, if_neg h1, if_pos h2]
        rw [e, e]
        exact ih _
      · have e : ∀ cs, runF r0 i0 r1 i1 r2 i2 r3 i3 k M l (x :: cs) = ([], (stepF r0 i0 r1 i1 r2 i2 r3 i3 k x.1 (over x.2 l)).2) := fun cs => by rw [runF, if_neg h1, if_neg h2]
        rw [e, e, if_neg h2]
theorem runF_fit {l : List Int} (hf : Fit k l) (us : List (Int × List Int)) (h : (runF r0 i0 r1 i1 r2 i2 r3 i3 k M l us).2 = 0) : Fit k (runF r0 i0 r1 i1 r2 i2 r3 i3 k M l us).1 := by
  induction us generalizing l with
  | nil => simpa [runF] using hf
  | cons x us ih =>
    unfold runF at h ⊢
    split
    · rename_i h1
      rw [if_pos h1] at h
      simp at h
    · rename_i h1
      rw [if_neg h1] at h
      split
      · rename_i h2
        rw [if_pos h2] at h
        exact ih (stepF_fit h2).1 h
      · rename_i h2
        rw [if_neg h2] at h
        exact absurd h h2
end
theorem CallsAt.take_ {w : World} {A : Option Addr} {n : Nat} {xs : List Cl} (h : CallsAt w A n xs) {m : Nat} (hm : m ≤ n) : CallsAt w A (xs.take m).length (xs.take m) := by
  refine ⟨rfl, fun x hx => h.2.1 x (List.mem_of_mem_take hx), fun hn => ?_⟩
  have hl : (xs.take m).length ≤ m := List.length_take_le _ _
  obtain ⟨ad, e, hc⟩ := h.2.2 (by omega)
  refine ⟨ad, e, fun i x hx => hc i x ?_⟩
  rw [List.getElem?_take] at hx
  split at hx
  · exact hx
  · cases hx
theorem add_add (a : Addr) (i j : Nat) : (a.add i).add j = a.add (i + j) := by
  unfold Addr.add
  by_cases hi : i = 0 <;> by_cases hj : j = 0 <;> simp [hi, hj, Nat.add_assoc]
theorem CallsAt.drop_ {w : World} {A : Option Addr} {n c : Nat} {xs : List Cl} (h : CallsAt w A n xs) {m : Nat} (hm : m ≤ n) (hc : n ≤ c) : CallsAt w (if c = m then A else A.map (·.add (m * 2))) (xs.drop m).length (xs.drop m) := by
  refine ⟨rfl, fun x hx => h.2.1 x (List.mem_of_mem_drop hx), fun hn => ?_⟩
  rw [List.length_drop, h.1] at hn
  obtain ⟨ad, rfl, hcell⟩ := h.2.2 (by omega)
  rw [if_neg (by omega)]
  refine ⟨ad.add (m * 2), rfl, fun i x hx => ?_⟩
  rw [List.getElem?_drop] at hx
  have h2 := hcell _ x hx
  rw [add_add]
  rwa [show (m + i) * 2 = m * 2 + i * 2 by omega] at h2

set_option maxRecDepth 100000 in
theorem twice_long (k : Int) (l : List Int) (A : Option Addr) (c : Nat) (xs : List Cl) (A2 : Option Addr) (c2 : Nat) (w : World) (hl : 200 < xs.length) :
    Calls Tryd.prog 8 #[.int .i64 k, .slice A l.length c, .slice A2 xs.length c2] w fun e w' => e = .returned (.bool true) ∧ Below w.heap.size w w' := by
  go_enter Tryd.func8, Tryd.ntmps8
  go_wp2_with fail
  refine (works_any _).mono ?_
  rintro e w1 ⟨rfl, hb⟩
  have HB := Lib.hid hb
  clear hb
  go_wp2
  go_ret
  exact ⟨rfl, HB.out⟩
set_option maxRecDepth 100000 in
set_option maxHeartbeats 1000000 in
theorem twice_err (k : Int) (l : List Int) (A : Option Addr) (c : Nat) (xs : List Cl) (A2 : Option Addr) (c2 : Nat) (w : World) (hl : xs.length ≤ 200) (hcc : xs.length ≤ c2) (r : Int) (hr : r ≠ 0) (hw : block_wrong.f 8 k l = some r) (hC : Kd.C kI w A l.length l) (hc : l.length ≤ c) :
    Calls Tryd.prog 8 #[.int .i64 k, .slice A l.length c, .slice A2 xs.length c2] w fun e w' => e = .returned (.bool true) ∧ Below w.heap.size w w' := by
  have HC := Lib.hid hC
  have HL := Lib.hid hc
  have HN := Lib.hid hr
  have h1 : (r != 0) = true := by simpa using hr
  clear hC hc
  go_enter Tryd.func8, Tryd.ntmps8
  go_wp2_with fail
  refine (works_any _).mono ?_
  rintro e w1 ⟨rfl, hb⟩
  have HB := Lib.hid hb
  have HC1 := Lib.hid (Kd.C_below HC.out hb)
  clear hb
  go_wp2_with fail
  refine (run_no k l r HN.out hw A c _ _ HC1.out HL.out).mono ?_
  rintro e w2 ⟨hb, ⟨h0, _⟩ | ⟨_, rfl⟩⟩
  · exact absurd h0 HN.out
  have HB2 := Lib.hid (HB.out.trans (hb.mono HB.out.size))
  have HC2 := Lib.hid (Kd.C_below HC1.out hb)
  clear hb HB HC1
  go_wp2_with fail
  refine (run_no k l r HN.out hw A c _ _ HC2.out HL.out).mono ?_
  rintro e w3 ⟨hb, ⟨h0, _⟩ | ⟨_, rfl⟩⟩
  · exact absurd h0 HN.out
  have HB3 := Lib.hid (HB2.out.trans (hb.mono HB2.out.size))
  clear hb HB2 HC2 HC HL HN hw
  go_wp2
  go_ret
  exact ⟨rfl, HB3.out⟩
set_option maxRecDepth 100000 in
set_option maxHeartbeats 2000000 in
theorem twice_core {r0 i0 r1 i1 r2 i2 r3 i3 : Nat} (k : Int) (l : List Int) (A : Option Addr) (c : Nat) (n : Nat) (A2 : Option Addr) (c2 : Nat) (w : World) (hl : n ≤ 200) (hcc : n ≤ c2) (hne : ¬ c2 = n / 2) (RA RH : List Int × Int) (xs : List Cl) (hq : Circ r0 i0 r1 i1 r2 i2 r3 i3 w) (hC : Kd.C kI w A l.length l) (hca : CallsAt w A2 n xs) (hA : RA.2 = 0 → RA.1.length ≤ 6) (hnil : RA.2 ≠ 0 → RA.1 = []) (hstop : RH.2 ≠ 0 → RA = ([], RH.2))
    (h1 : ∀ w, Circ r0 i0 r1 i1 r2 i2 r3 i3 w → Kd.C kI w A l.length l → CallsAt w A2 n xs → Calls Tryd.prog 16 #[.int .i64 k, .slice A l.length c, .slice A2 n c2] w (Told w RA))
    (h2 : ∀ w, Circ r0 i0 r1 i1 r2 i2 r3 i3 w → Kd.C kI w A l.length l → CallsAt w A2 n xs → Calls Tryd.prog 16 #[.int .i64 k, .slice A l.length c, .slice A2 (n / 2) c2] w (Told w RH))
    (h3 : RH.2 = 0 → ∀ w g c', Circ r0 i0 r1 i1 r2 i2 r3 i3 w → Kd.C kI w (some ⟨g, 0, none⟩) RH.1.length RH.1 → RH.1.length ≤ c' → CallsAt w A2 n xs → Calls Tryd.prog 16 #[.int .i64 k, .slice (some ⟨g, 0, none⟩) RH.1.length c', .slice (A2.map (·.add (n / 2 * 2))) (n - n / 2) (c2 - n / 2)] w (Told w RA)) :
    Calls Tryd.prog 8 #[.int .i64 k, .slice A l.length c, .slice A2 n c2] w fun e w' => e = .returned (.bool true) ∧ Below w.heap.size w w' := by
  have HQ := Lib.hid hq
  have HC := Lib.hid hC
  have HX := Lib.hid hca
  have HA := Lib.hid hA
  have HNL := Lib.hid hnil
  have HST := Lib.hid hstop
  have H1 := Lib.hid h1
  have H2 := Lib.hid h2
  have H3 := Lib.hid h3
  clear hq hC hca hA hnil hstop h1 h2 h3
  go_enter Tryd.func8, Tryd.ntmps8
  go_wp2_with fail
  refine (works_any _).mono ?_
  rintro e w1 ⟨rfl, hb⟩
  have HB1 := Lib.hid hb
  clear hb
  go_wp2_with fail
  refine (H1.out _ (HQ.out.below HB1.out) (Kd.C_below HC.out HB1.out) (HX.out.below HB1.out)).mono ?_
  rintro e w2 ⟨hb, ⟨hz, g, ca, rfl, hrow⟩ | ⟨hnz, rfl⟩⟩
  · have HR := Lib.hid hrow
    have HZ := Lib.hid hz
    clear hrow hz
    have HB2 := Lib.hid (HB1.out.trans (hb.mono HB1.out.size))
    clear hb
    go_wp2_with fail
    refine (H2.out _ (HQ.out.below HB2.out) (Kd.C_below HC.out HB2.out) (HX.out.below HB2.out)).mono ?_
    rintro e w3 ⟨hb, ⟨hz2, g2, cb, rfl, hrow2⟩ | ⟨hnz2, rfl⟩⟩
    · have HB3 := Lib.hid (HB2.out.trans (hb.mono HB2.out.size))
      have HR2 := Lib.hid hrow2
      have HR3 := Lib.hid (HR.out.below hb)
      have HZ2 := Lib.hid hz2
      clear hb hrow2 hz2 HR
      go_wp2_with fail
      refine (H3.out HZ2.out _ g2 cb (HQ.out.below HB3.out) HR2.out.C HR2.out.cap (HX.out.below HB3.out)).mono ?_
      rintro e w4 ⟨hb, ⟨hz3, g3, cc, rfl, hrow3⟩ | ⟨hnz3, rfl⟩⟩
      · have HB4 := Lib.hid (HB3.out.trans (hb.mono HB3.out.size))
        have HR4 := Lib.hid (HR3.out.below hb)
        have HR5 := Lib.hid hrow3
        clear hb hrow3 HR3 hz3
        go_wp2_with fail
        refine (same_any RA.1 (HA.out HZ.out) (some ⟨g, 0, none⟩) ca (some ⟨g3, 0, none⟩) cc w4 HR4.out.C HR5.out.C).mono ?_
        rintro e w5 ⟨rfl, hb⟩
        have HB5 := Lib.hid (HB4.out.trans (hb.mono HB4.out.size))
        clear hb HR4 HR5
        go_wp2
        go_ret
        exact ⟨rfl, HB5.out⟩
      · exact absurd HZ.out hnz3
    · have hs := HST.out hnz2
      have hz4 := HZ.out
      rw [hs] at hz4
      exact absurd hz4 hnz2
  · have HN := Lib.hid hnz
    have hn1 : (RA.2 != 0) = true := by simpa using hnz
    have hn2 : (RA.2 == 0) = false := by simpa using hnz
    clear hnz
    have HB2 := Lib.hid (HB1.out.trans (hb.mono HB1.out.size))
    clear hb
    go_wp2_with fail
    refine (H2.out _ (HQ.out.below HB2.out) (Kd.C_below HC.out HB2.out) (HX.out.below HB2.out)).mono ?_
    rintro e w3 ⟨hb, ⟨hz2, g2, cb, rfl, hrow2⟩ | ⟨hnz2, rfl⟩⟩
    · have HB3 := Lib.hid (HB2.out.trans (hb.mono HB2.out.size))
      have HR2 := Lib.hid hrow2
      have HZ2 := Lib.hid hz2
      clear hb hrow2 hz2
      go_wp2_with fail
      refine (H3.out HZ2.out _ g2 cb (HQ.out.below HB3.out) HR2.out.C HR2.out.cap (HX.out.below HB3.out)).mono ?_
      rintro e w4 ⟨hb, ⟨hz3, _⟩ | ⟨hnz3, rfl⟩⟩
      · exact absurd hz3 HN.out
      have HB4 := Lib.hid (HB3.out.trans (hb.mono HB3.out.size))
      clear hb hnz3
      go_wp2_with fail
      refine (same_any [] (by simp) none 0 none 0 w4 (Kd.C_nil kI w4) (Kd.C_nil kI w4)).mono ?_
      rintro e w5 ⟨rfl, hb⟩
      have HB5 := Lib.hid (HB4.out.trans (hb.mono HB4.out.size))
      clear hb
      go_wp2
      go_ret
      exact ⟨rfl, HB5.out⟩
    · have HB3 := Lib.hid (HB2.out.trans (hb.mono HB2.out.size))
      have hs : RA.2 = RH.2 := by rw [HST.out hnz2]
      rw [← hs]
      clear hb hnz2 hs
      go_wp2
      go_ret
      exact ⟨rfl, HB3.out⟩
set_option maxRecDepth 100000 in
set_option maxHeartbeats 2000000 in
theorem twice_nil {r0 i0 r1 i1 r2 i2 r3 i3 : Nat} (k : Int) (l : List Int) (A : Option Addr) (c : Nat) (A2 : Option Addr) (w : World) (RA RH : List Int × Int) (xs : List Cl) (hq : Circ r0 i0 r1 i1 r2 i2 r3 i3 w) (hC : Kd.C kI w A l.length l) (hca : CallsAt w A2 0 xs) (hA : RA.2 = 0 → RA.1.length ≤ 6) (hnil : RA.2 ≠ 0 → RA.1 = []) (hstop : RH.2 ≠ 0 → RA = ([], RH.2))
    (h1 : ∀ w, Circ r0 i0 r1 i1 r2 i2 r3 i3 w → Kd.C kI w A l.length l → CallsAt w A2 0 xs → Calls Tryd.prog 16 #[.int .i64 k, .slice A l.length c, .slice A2 0 0] w (Told w RA))
    (h2 : ∀ w, Circ r0 i0 r1 i1 r2 i2 r3 i3 w → Kd.C kI w A l.length l → CallsAt w A2 0 xs → Calls Tryd.prog 16 #[.int .i64 k, .slice A l.length c, .slice A2 (0) 0] w (Told w RH))
    (h3 : RH.2 = 0 → ∀ w g c', Circ r0 i0 r1 i1 r2 i2 r3 i3 w → Kd.C kI w (some ⟨g, 0, none⟩) RH.1.length RH.1 → RH.1.length ≤ c' → CallsAt w A2 0 xs → Calls Tryd.prog 16 #[.int .i64 k, .slice (some ⟨g, 0, none⟩) RH.1.length c', .slice A2 (0) (0)] w (Told w RA)) :
    Calls Tryd.prog 8 #[.int .i64 k, .slice A l.length c, .slice A2 0 0] w fun e w' => e = .returned (.bool true) ∧ Below w.heap.size w w' := by
  have HQ := Lib.hid hq
  have HC := Lib.hid hC
  have HX := Lib.hid hca
  have HA := Lib.hid hA
  have HNL := Lib.hid hnil
  have HST := Lib.hid hstop
  have H1 := Lib.hid h1
  have H2 := Lib.hid h2
  have H3 := Lib.hid h3
  clear hq hC hca hA hnil hstop h1 h2 h3
  go_enter Tryd.func8, Tryd.ntmps8
  go_wp2_with fail
  refine (works_any _).mono ?_
  rintro e w1 ⟨rfl, hb⟩
  have HB1 := Lib.hid hb
  clear hb
  go_wp2_with fail
  refine (H1.out _ (HQ.out.below HB1.out) (Kd.C_below HC.out HB1.out) (HX.out.below HB1.out)).mono ?_
  rintro e w2 ⟨hb, ⟨hz, g, ca, rfl, hrow⟩ | ⟨hnz, rfl⟩⟩
  · have HR := Lib.hid hrow
    have HZ := Lib.hid hz
    clear hrow hz
    have HB2 := Lib.hid (HB1.out.trans (hb.mono HB1.out.size))
    clear hb
    go_wp2_with fail
    refine (H2.out _ (HQ.out.below HB2.out) (Kd.C_below HC.out HB2.out) (HX.out.below HB2.out)).mono ?_
    rintro e w3 ⟨hb, ⟨hz2, g2, cb, rfl, hrow2⟩ | ⟨hnz2, rfl⟩⟩
    · have HB3 := Lib.hid (HB2.out.trans (hb.mono HB2.out.size))
      have HR2 := Lib.hid hrow2
      have HR3 := Lib.hid (HR.out.below hb)
      have HZ2 := Lib.hid hz2
      clear hb hrow2 hz2 HR
      go_wp2_with fail
      refine (H3.out HZ2.out _ g2 cb (HQ.out.below HB3.out) HR2.out.C HR2.out.cap (HX.out.below HB3.out)).mono ?_
      rintro e w4 ⟨hb, ⟨hz3, g3, cc, rfl, hrow3⟩ | ⟨hnz3, rfl⟩⟩
      · have HB4 := Lib.hid (HB3.out.trans (hb.mono HB3.out.size))
        have HR4 := Lib.hid (HR3.out.below hb)
        have HR5 := Lib.hid hrow3
        clear hb hrow3 HR3 hz3
        go_wp2_with fail
        refine (same_any RA.1 (HA.out HZ.out) (some ⟨g, 0, none⟩) ca (some ⟨g3, 0, none⟩) cc w4 HR4.out.C HR5.out.C).mono ?_
        rintro e w5 ⟨rfl, hb⟩
        have HB5 := Lib.hid (HB4.out.trans (hb.mono HB4.out.size))
        clear hb HR4 HR5
        go_wp2
        go_ret
        exact ⟨rfl, HB5.out⟩
      · exact absurd HZ.out hnz3
    · have hs := HST.out hnz2
      have hz4 := HZ.out
      rw [hs] at hz4
      exact absurd hz4 hnz2
  · have HN := Lib.hid hnz
    have hn1 : (RA.2 != 0) = true := by simpa using hnz
    have hn2 : (RA.2 == 0) = false := by simpa using hnz
    clear hnz
    have HB2 := Lib.hid (HB1.out.trans (hb.mono HB1.out.size))
    clear hb
    go_wp2_with fail
    refine (H2.out _ (HQ.out.below HB2.out) (Kd.C_below HC.out HB2.out) (HX.out.below HB2.out)).mono ?_
    rintro e w3 ⟨hb, ⟨hz2, g2, cb, rfl, hrow2⟩ | ⟨hnz2, rfl⟩⟩
    · have HB3 := Lib.hid (HB2.out.trans (hb.mono HB2.out.size))
      have HR2 := Lib.hid hrow2
      have HZ2 := Lib.hid hz2
      clear hb hrow2 hz2
      go_wp2_with fail
      refine (H3.out HZ2.out _ g2 cb (HQ.out.below HB3.out) HR2.out.C HR2.out.cap (HX.out.below HB3.out)).mono ?_
      rintro e w4 ⟨hb, ⟨hz3, _⟩ | ⟨hnz3, rfl⟩⟩
      · exact absurd hz3 HN.out
      have HB4 := Lib.hid (HB3.out.trans (hb.mono HB3.out.size))
      clear hb hnz3
      go_wp2_with fail
      refine (same_any [] (by simp) none 0 none 0 w4 (Kd.C_nil kI w4) (Kd.C_nil kI w4)).mono ?_
      rintro e w5 ⟨rfl, hb⟩
      have HB5 := Lib.hid (HB4.out.trans (hb.mono HB4.out.size))
      clear hb
      go_wp2
      go_ret
      exact ⟨rfl, HB5.out⟩
    · have HB3 := Lib.hid (HB2.out.trans (hb.mono HB2.out.size))
      have hs : RA.2 = RH.2 := by rw [HST.out hnz2]
      rw [← hs]
      clear hb hnz2 hs
      go_wp2
      go_ret
      exact ⟨rfl, HB3.out⟩

/-- BlockTwice, whatever the circle holds -/
theorem twice_any {r0 i0 r1 i1 r2 i2 r3 i3 : Nat} (k : Int) (l : List Int) (A : Option Addr) (c : Nat) (xs : List Cl) (A2 : Option Addr) (c2 : Nat) (w : World) (hq : Circ r0 i0 r1 i1 r2 i2 r3 i3 w) (hr : ReadsInt w .i64 A l.length l) (hc : l.length ≤ c) (hca : CallsAt w A2 xs.length xs) (hcc : xs.length ≤ c2) :
    Calls Tryd.prog 8 #[.int .i64 k, .slice A l.length c, .slice A2 xs.length c2] w fun e w' => e = .returned (.bool true) ∧ Below w.heap.size w w' := by
  have hC := C_ints hr
  by_cases hl : xs.length ≤ 200
  · rcases wrong_total k l with ⟨hw, hf⟩ | ⟨r, hne, hw⟩
    · obtain ⟨m, hm⟩ : ∃ m, m = xs.length / 2 := ⟨_, rfl⟩
      have e2 : (xs.take m).length = m := by simp; omega
      have e3 : (xs.drop m).length = xs.length - m := by simp
      have hsplit : xs.map Cl.d = (xs.take m).map Cl.d ++ (xs.drop m).map Cl.d := by rw [← List.map_append, List.take_append_drop]
      have happ := runF_append (r0 := r0) (i0 := i0) (r1 := r1) (i1 := i1) (r2 := r2) (i2 := i2) (r3 := r3) (i3 := i3) (k := k) (M := mayV k) l ((xs.take m).map Cl.d) ((xs.drop m).map Cl.d)
      rw [← hsplit] at happ
      have hA : (runF r0 i0 r1 i1 r2 i2 r3 i3 k (mayV k) l (xs.map Cl.d)).2 = 0 → (runF r0 i0 r1 i1 r2 i2 r3 i3 k (mayV k) l (xs.map Cl.d)).1.length ≤ 6 := fun h => (runF_fit hf _ h).len.2
      have hnil := runF_nil (r0 := r0) (i0 := i0) (r1 := r1) (i1 := i1) (r2 := r2) (i2 := i2) (r3 := r3) (i3 := i3) (k := k) (M := mayV k) l (xs.map Cl.d)
      have hstop : (runF r0 i0 r1 i1 r2 i2 r3 i3 k (mayV k) l ((xs.take m).map Cl.d)).2 ≠ 0 → runF r0 i0 r1 i1 r2 i2 r3 i3 k (mayV k) l (xs.map Cl.d) = ([], (runF r0 i0 r1 i1 r2 i2 r3 i3 k (mayV k) l ((xs.take m).map Cl.d)).2) := fun h => by rw [happ, if_neg h]
      have hgo : (runF r0 i0 r1 i1 r2 i2 r3 i3 k (mayV k) l ((xs.take m).map Cl.d)).2 = 0 → runF r0 i0 r1 i1 r2 i2 r3 i3 k (mayV k) (runF r0 i0 r1 i1 r2 i2 r3 i3 k (mayV k) l ((xs.take m).map Cl.d)).1 ((xs.drop m).map Cl.d) = runF r0 i0 r1 i1 r2 i2 r3 i3 k (mayV k) l (xs.map Cl.d) := fun h => by rw [happ, if_pos h]
      have h1 : ∀ w, Circ r0 i0 r1 i1 r2 i2 r3 i3 w → Kd.C kI w A l.length l → CallsAt w A2 xs.length xs → Calls Tryd.prog 16 #[.int .i64 k, .slice A l.length c, .slice A2 xs.length c2] w (Told w (runF r0 i0 r1 i1 r2 i2 r3 i3 k (mayV k) l (xs.map Cl.d))) :=
        fun w hq hC hca => run_fit hf xs hl A c A2 c2 w hq hC hc hca
      have h2 : ∀ w, Circ r0 i0 r1 i1 r2 i2 r3 i3 w → Kd.C kI w A l.length l → CallsAt w A2 xs.length xs → Calls Tryd.prog 16 #[.int .i64 k, .slice A l.length c, .slice A2 m c2] w (Told w (runF r0 i0 r1 i1 r2 i2 r3 i3 k (mayV k) l ((xs.take m).map Cl.d))) := by
        intro w hq hC hca
        have h := run_fit hf (xs.take m) (by omega) A c A2 c2 w hq hC hc (hca.take_ (by omega))
        rw [e2] at h
        exact h
      by_cases hroom : c2 = xs.length / 2
      · have hx0 : xs.length = 0 := by omega
        have hxn := List.eq_nil_of_length_eq_zero hx0
        subst hxn
        have hc0 : c2 = 0 := by simpa using hroom
        have hm0 : m = 0 := by simpa using hm
        subst hc0
        subst hm0
        refine twice_nil k l A c A2 w _ _ [] hq hC hca hA hnil hstop h1 h2 (fun hz w g c' hq hC hc' hca => ?_)
        have h := run_fit (runF_fit hf _ hz) ([] : List Cl) (by simp) (some ⟨g, 0, none⟩) c' A2 0 w hq hC hc' hca
        have e := hgo hz
        simp only [List.drop_nil, List.map_nil] at e
        rw [List.map_nil, e] at h
        exact h
      · subst hm
        refine twice_core k l A c xs.length A2 c2 w hl hcc hroom _ _ xs hq hC hca hA hnil hstop h1 h2 (fun hz w g c' hq hC hc' hca => ?_)
        have hd := hca.drop_ (m := xs.length / 2) (by omega) hcc
        rw [if_neg hroom] at hd
        have h := run_fit (runF_fit hf _ hz) (xs.drop (xs.length / 2)) (by omega) (some ⟨g, 0, none⟩) c' _ (c2 - xs.length / 2) w hq hC hc' hd
        rw [e3, hgo hz] at h
        exact h
    · exact twice_err k l A c xs A2 c2 w hl hcc r hne hw hC hc
  · exact twice_long k l A c xs A2 c2 w (by omega)

end Go.Proofs.YtefflkmegodafaaDoor.PBlockKeeps
