/-
  The walk of layer 21's law function PlanTimes.
-/
import Derived.Test.YtdajedggennljaaPlanTimesPlG
namespace Go.Proofs.Ytdajedggennljaa.PPlanTimes
open Go.RowKit Go.Shelf Go.Proofs.YtdajedggennljaaW.PrintWords Go.Proofs.YtdajedggennljaaW.PrintLast Go.Proofs.YtdajedggennljaaW.PrintMore
attribute [local go_sem] Oper.semAt_some

/-- before: the tick ahead of one -/
theorem before_any (F : Int) (A : Option Addr) (c : Nat) (ws : List S36) (N t i n j m : Int) (w : World) (hr : Kd.C k36 w A ws.length ws) (hc : ws.length ≤ c) (ht : -9223372036854775807 ≤ t ∧ t ≤ 9223372036854775807) (hv : atV F ws N (t - 1) = (j, m, 0)) (hd : ¬ (j = i ∧ m = n)) :
    Calls Try.prog 11 #[.agg #[.int .i64 F, .slice A ws.length c], .int .i64 N, .int .i64 t, .int .i64 i, .int .i64 n] w fun e w' => e = .returned (.bool true) ∧ Below w.heap.size w w' := by
  have HR := Lib.hid hr
  have HC := Lib.hid hc
  have HV := Lib.hid hv
  have e1 : IntKind.i64.wrap (t - 1) = t - 1 := IntWalk.i64_in _ (by omega)
  clear hr hc hv
  go_enter Try.func11, Try.ntmps11
  go_wp2_with fail
  refine (plan_at_any F _ c ws N (t - 1) _ (Kd.C_alloc HR.out _) HC.out (by omega)).mono ?_
  rw [HV.out]
  rintro e w1 ⟨rfl, hb⟩
  by_cases h1 : j = i
  · have h2 : ¬ m = n := fun h => hd ⟨h1, h⟩
    have h3 : (m != n) = true := bne_iff_ne.2 h2
    go_wp2
    go_ret
    exact ⟨by simp, bnext (bnew _ _) hb⟩
  · go_wp2
    go_ret
    exact ⟨rfl, bnext (bnew _ _) hb⟩

set_option maxRecDepth 100000 in
set_option maxHeartbeats 4000000 in
theorem times_err (F : Int) (A : Option Addr) (c : Nat) (ws : List S36) (N T P K a e : Int) (w : World) (hr : Kd.C k36 w A ws.length ws) (hc : ws.length ≤ c) (hv : checkV F ws N = (a, e)) (he : ¬ e = 0) :
    Calls Try.prog 3 #[.agg #[.int .i64 F, .slice A ws.length c], .agg #[.int .i64 N, .int .i64 T, .int .i64 P, .int .i64 K]] w fun e w' => e = .returned (.bool true) ∧ Below w.heap.size w w' := by
  have HR := Lib.hid hr
  have HC := Lib.hid hc
  have HV := Lib.hid hv
  clear hr hc hv
  have i0 := Bx.new w F A c ws N T P K 24 26 HR.out
  have I0 := Lib.hid i0
  clear i0
  go_enter Try.func3, Try.ntmps3
  go_wp2_with fail
  refine (works_true _).mono ?_
  rintro e w1 ⟨rfl, hb⟩
  have i1 := I0.out.next hb
  have I1 := Lib.hid i1
  obtain ⟨_, _, cF, cS, cN, cT, cP, cK, _⟩ := i1
  clear hb
  go_wp2_with fail
  refine (check_at _ I1.out.row HC.out HV.out).mono ?_
  rintro e w2 ⟨rfl, hb⟩
  have i2 := I1.out.next hb
  have I2 := Lib.hid i2
  clear hb cF cS cN cT cP cK I1
  obtain ⟨_, _, cF, cS, cN, cT, cP, cK, _⟩ := i2
  go_wp2_with fail
  refine (starts_err F A c ws N P K a _ _ I2.out.row HC.out HV.out he).mono ?_
  rintro e w3 ⟨rfl, hb⟩
  go_wp2
  go_ret
  exact ⟨by simp, (I2.out.next hb).bel⟩

set_option maxRecDepth 100000 in
set_option maxHeartbeats 4000000 in
theorem times_good (F : Int) (A : Option Addr) (c : Nat) (ws : List S36) (N T P K : Int) (w : World) (hr : Kd.C k36 w A ws.length ws) (hc : ws.length ≤ c) (g : Good F ws N) :
    Calls Try.prog 3 #[.agg #[.int .i64 F, .slice A ws.length c], .agg #[.int .i64 N, .int .i64 T, .int .i64 P, .int .i64 K]] w fun e w' => e = .returned (.bool true) ∧ Below w.heap.size w w' := by
  have HR := Lib.hid hr
  have HC := Lib.hid hc
  have n1 := g.n1
  have n2 := g.n2
  have i0 := Bx.new w F A c ws N T P K 24 26 HR.out
  have I0 := Lib.hid i0
  have G := Lib.hid g
  have eN : IntKind.u64.wrap N = N := by rw [IntKind.wrap_u64]; omega
  have l1 := g.l1
  have F1 := g.f1
  have F2 := g.f2
  have l2 := g.l2
  obtain ⟨ad, rfl⟩ := C_some hr l1
  have eP := wrapK P (n := N) n1 (by omega)
  have eK := wrapK K (n := 1000) (by omega) (by omega)
  obtain ⟨p0, p1⟩ := umod_in (x := P) (N := N) n1
  obtain ⟨k0, k1⟩ := umod_in (x := K) (N := 1000) (by omega)
  generalize umod P N = p at eP p0 p1
  generalize umod K 1000 = k at eK k0 k1
  obtain ⟨m, q, t, m1, m2, m3, m4, m5, m6, m7, m8, m9, m10, m11, ⟨j1, q1, m12, m13⟩, ⟨nx, m14, m15⟩, m16⟩ := times_plain (k := k) g p0 p1 k0 (by omega)
  have W0 : ∀ {W : World}, Kd.C k36 W (some ad) ws.length ws → _ := fun h => at_win h m1
  generalize hx0 : (win ws m).f0 = x0 at m2 W0
  generalize hx1 : (win ws m).f1 = x1 at m3 m6 m8 W0
  generalize hx2 : (win ws m).f2 = x2 at m7 m8 m11 m12 m15 W0
  subst m2
  have hqF : 0 ≤ q * F := Int.mul_nonneg m4 (by omega)
  have hqF2 : q * F ≤ 1000 * 65536 := Int.mul_le_mul (by omega) F2 (by omega) (by omega)
  have w1 : IntKind.i64.wrap (q * F) = q * F := IntWalk.i64_in _ (by omega)
  have w2 : IntKind.i64.wrap (q * F + x1) = t := by rw [m3]; exact IntWalk.i64_in _ (by omega)
  have w3 : IntKind.i64.wrap (t + x2) = t + x2 := IntWalk.i64_in _ (by omega)
  have w4 : IntKind.i64.wrap (t + x2 - 1) = t + x2 - 1 := IntWalk.i64_in _ (by omega)
  have w5 : IntKind.i64.wrap (k + 1) = k + 1 := IntWalk.i64_in _ (by omega)
  have M9 := Lib.hid m9
  have M10 := Lib.hid m10
  have M11 := Lib.hid m11
  have M12 := Lib.hid m12
  have M14 := Lib.hid m14
  have M16 := Lib.hid m16
  have t0 : 0 ≤ t := by omega
  have t1 : t ≤ 1000000000 := by omega
  have M13 := Lib.hid m13
  clear m3 m9 m10 m11 m12 m14 m16 hx0 hx1 hx2 hqF hqF2 m13
  clear hr hc i0 g
  go_enter Try.func3, Try.ntmps3
  go_wp2_with fail
  refine (works_true _).mono ?_
  rintro e w1 ⟨rfl, hb⟩
  have i1 := I0.out.next hb
  have I1 := Lib.hid i1
  obtain ⟨_, _, cF, cS, cN, cT, cP, cK, _⟩ := i1
  clear hb
  go_wp2_with fail
  refine (check_at _ I1.out.row HC.out G.out.is).mono ?_
  rintro e w2 ⟨rfl, hb⟩
  have i2 := I1.out.next hb
  have I2 := Lib.hid i2
  clear hb cF cS cN cT cP cK I1
  obtain ⟨_, _, cF, cS, cN, cT, cP, cK, _⟩ := i2
  go_wp2_with fail
  simp only [eP, eK]
  refine (starts_all F _ c ws N x0 k _ I2.out.row HC.out).mono ?_
  rw [M9.out]
  rintro e w3 ⟨rfl, hb⟩
  have i3 := I2.out.next hb
  have I3 := Lib.hid i3
  clear hb cF cS cN cT cP cK I2
  obtain ⟨_, _, cF, cS, cN, cT, cP, cK, _⟩ := i3
  go_wp2_with fail
  refine (plan_at_any F _ c ws N t _ I3.out.row HC.out (by omega)).mono ?_
  rw [M10.out]
  rintro e w4 ⟨rfl, hb⟩
  have i4 := I3.out.next hb
  have I4 := Lib.hid i4
  clear hb cF cS cN cT cP cK I3
  obtain ⟨_, _, cF, cS, cN, cT, cP, cK, hz1⟩ := i4
  have hz0 : w.heap.size < w4.heap.size := by omega
  obtain ⟨d0, d1, d2⟩ := W0 I4.out.row
  clear W0
  go_wp2_with fail
  have i4' := I4.out.next (bnew w4 (.cells #[.int .i64 x0, .int .i64 x1, .int .i64 x2] 36))
  refine (plan_at_any F _ c ws N (t + x2 - 1) _ i4'.row HC.out (by omega)).mono ?_
  rw [M11.out]
  rintro e w5 ⟨rfl, hb⟩
  have hc5 := (bcell hb).1
  have v0 : w5.cell? ⟨w4.heap.size, 0, none⟩ = some (.int .i64 x0) := by rw [hc5 _ _ (by simp)]; simp [go_sem]
  have v1 : w5.cell? ⟨w4.heap.size, 1, none⟩ = some (.int .i64 x1) := by rw [hc5 _ _ (by simp)]; simp [go_sem]
  have v2 : w5.cell? ⟨w4.heap.size, 2, none⟩ = some (.int .i64 x2) := by rw [hc5 _ _ (by simp)]; simp [go_sem]
  have i5 := i4'.next hb
  have I5 := Lib.hid i5
  have hz4 : w4.heap.size < w5.heap.size := by have := hb.size; simp at this; omega
  clear hb hc5 cF cS cN cT cP cK I4 hz0 hz1 i4' d0 d1 d2
  obtain ⟨_, _, cF, cS, cN, cT, cP, cK, _⟩ := i5
  go_wp2_with fail
  refine (plan_at_any F _ c ws N (t + x2) _ I5.out.row HC.out (by omega)).mono ?_
  rw [M12.out]
  rintro e w6 ⟨rfl, hb⟩
  have i6 := I5.out.next hb
  have I6 := Lib.hid i6
  have u0 := (hb.cell (p := ⟨w4.heap.size, 0, none⟩) hz4).trans v0
  have u1 := (hb.cell (p := ⟨w4.heap.size, 1, none⟩) hz4).trans v1
  have u2 := (hb.cell (p := ⟨w4.heap.size, 2, none⟩) hz4).trans v2
  have hz6 := hb.size
  clear hb cF cS cN cT cP cK I5 v0 v1 v2
  obtain ⟨_, _, cF, cS, cN, cT, cP, cK, _⟩ := i6
  have hcase : (j1 = (m : Int) ∧ ¬ q1 = q) ∨ ¬ j1 = (m : Int) := by
    by_cases h : j1 = (m : Int)
    · exact .inl ⟨h, fun h2 => M13.out ⟨h, h2⟩⟩
    · exact .inr h
  rcases hcase with ⟨hj1, hj2⟩ | hj1
  · go_wp2_with fail
    refine (starts_all F _ c ws N x0 (k + 1) _ I6.out.row HC.out).mono ?_
    rw [M14.out]
    rintro e w7 ⟨rfl, hb⟩
    have i7 := I6.out.next hb
    have I7 := Lib.hid i7
    have y0 := (hb.cell (p := ⟨w4.heap.size, 0, none⟩) (Nat.lt_of_lt_of_le hz4 hz6)).trans u0
    have y1 := (hb.cell (p := ⟨w4.heap.size, 1, none⟩) (Nat.lt_of_lt_of_le hz4 hz6)).trans u1
    have y2 := (hb.cell (p := ⟨w4.heap.size, 2, none⟩) (Nat.lt_of_lt_of_le hz4 hz6)).trans u2
    clear hb cF cS cN cT cP cK I6 u0 u1 u2
    obtain ⟨_, _, cF, cS, cN, cT, cP, cK, _⟩ := i7
    by_cases ht : t = 0
    · clear t0
      go_wp2
      go_ret
      exact ⟨by simp, I7.out.bel⟩
    · obtain ⟨j, q', hat, hne⟩ := M16.out.resolve_left ht
      have HAT := Lib.hid hat
      have HNE := Lib.hid hne
      clear hat hne
      go_wp2_with fail
      refine (before_any F _ c ws N t m q j q' _ I7.out.row HC.out (by omega) HAT.out HNE.out).mono ?_
      rintro e w8 ⟨rfl, hb⟩
      go_wp2
      go_ret
      exact ⟨by simp, (I7.out.next hb).bel⟩
  · go_wp2_with fail
    refine (starts_all F _ c ws N x0 (k + 1) _ I6.out.row HC.out).mono ?_
    rw [M14.out]
    rintro e w7 ⟨rfl, hb⟩
    have i7 := I6.out.next hb
    have I7 := Lib.hid i7
    have y0 := (hb.cell (p := ⟨w4.heap.size, 0, none⟩) (Nat.lt_of_lt_of_le hz4 hz6)).trans u0
    have y1 := (hb.cell (p := ⟨w4.heap.size, 1, none⟩) (Nat.lt_of_lt_of_le hz4 hz6)).trans u1
    have y2 := (hb.cell (p := ⟨w4.heap.size, 2, none⟩) (Nat.lt_of_lt_of_le hz4 hz6)).trans u2
    clear hb cF cS cN cT cP cK I6 u0 u1 u2
    obtain ⟨_, _, cF, cS, cN, cT, cP, cK, _⟩ := i7
    by_cases ht : t = 0
    · clear t0
      go_wp2
      go_ret
      exact ⟨by simp, I7.out.bel⟩
    · obtain ⟨j, q', hat, hne⟩ := M16.out.resolve_left ht
      have HAT := Lib.hid hat
      have HNE := Lib.hid hne
      clear hat hne
      go_wp2_with fail
      refine (before_any F _ c ws N t m q j q' _ I7.out.row HC.out (by omega) HAT.out HNE.out).mono ?_
      rintro e w8 ⟨rfl, hb⟩
      go_wp2
      go_ret
      exact ⟨by simp, (I7.out.next hb).bel⟩

/-- **PlanTimes** is true, whatever the plan and the ask -/
theorem times_any (F : Int) (A : Option Addr) (c : Nat) (ws : List S36) (N T P K : Int) (w : World) (hr : Kd.C k36 w A ws.length ws) (hc : ws.length ≤ c) :
    Calls Try.prog 3 #[.agg #[.int .i64 F, .slice A ws.length c], .agg #[.int .i64 N, .int .i64 T, .int .i64 P, .int .i64 K]] w fun e w' => e = .returned (.bool true) ∧ Below w.heap.size w w' := by
  by_cases he : (checkV F ws N).2 = 0
  · exact times_good F A c ws N T P K w hr hc (good_of he)
  · exact times_err F A c ws N T P K _ _ w hr hc rfl he

end Go.Proofs.Ytdajedggennljaa.PPlanTimes
