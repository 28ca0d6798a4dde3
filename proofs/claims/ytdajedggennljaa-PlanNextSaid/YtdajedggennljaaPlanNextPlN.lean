/-
  The walk of layer 21's law function PlanNext.
-/
import Derived.Test.YtdajedggennljaaPlanNextPlG
namespace Go.Proofs.Ytdajedggennljaa.PPlanNext
open Go.RowKit Go.Shelf Go.Proofs.YtdajedggennljaaW.PrintWords Go.Proofs.YtdajedggennljaaW.PrintLast Go.Proofs.YtdajedggennljaaW.PrintMore
attribute [local go_sem] Oper.semAt_some

theorem next_err (F : Int) (A : Option Addr) (c : Nat) (ws : List S36) (N T P K a e : Int) (w : World) (hr : Kd.C k36 w A ws.length ws) (hc : ws.length ≤ c) (hv : checkV F ws N = (a, e)) (he : ¬ e = 0) :
    Calls Try.prog 4 #[.agg #[.int .i64 F, .slice A ws.length c], .agg #[.int .i64 N, .int .i64 T, .int .i64 P, .int .i64 K]] w fun e w' => e = .returned (.bool true) ∧ Below w.heap.size w w' := by
  have HR := Lib.hid hr
  have HC := Lib.hid hc
  have HV := Lib.hid hv
  clear hr hc hv
  have i0 := Bx.new w F A c ws N T P K 24 26 HR.out
  have I0 := Lib.hid i0
  clear i0
  go_enter Try.func4, Try.ntmps4
  go_wp2_with fail
  refine (works_true _).mono ?_
  rintro e w1 ⟨rfl, hb⟩
  have i1 := I0.out.next hb
  have I1 := Lib.hid i1
  obtain ⟨_, _, cF, cS, cN, cT, cP, cK, _⟩ := i1
  clear hb
  go_wp2_with fail
  refine (check_at _ I1.out.row HC.out HV.out).mono ?_
  rintro e w2 ⟨rfl, hb⟩
  go_wp2
  go_ret
  exact ⟨rfl, (I1.out.next hb).bel⟩

set_option maxRecDepth 100000 in
set_option maxHeartbeats 4000000 in
theorem next_good (F : Int) (A : Option Addr) (c : Nat) (ws : List S36) (N T P K : Int) (w : World) (hr : Kd.C k36 w A ws.length ws) (hc : ws.length ≤ c) (g : Good F ws N) :
    Calls Try.prog 4 #[.agg #[.int .i64 F, .slice A ws.length c], .agg #[.int .i64 N, .int .i64 T, .int .i64 P, .int .i64 K]] w fun e w' => e = .returned (.bool true) ∧ Below w.heap.size w w' := by
  have HR := Lib.hid hr
  have HC := Lib.hid hc
  have n1 := g.n1
  have n2 := g.n2
  have i0 := Bx.new w F A c ws N T P K 24 26 HR.out
  have I0 := Lib.hid i0
  have G := Lib.hid g
  have eN : IntKind.u64.wrap N = N := by rw [IntKind.wrap_u64]; omega
  have l1 := g.l1
  have F1 := g.f1
  have F2 := g.f2
  have l2 := g.l2
  obtain ⟨ad, rfl⟩ := C_some hr l1
  have eP := wrapK P (n := N) n1 (by omega)
  have eK := wrapK K (n := 100000) (by omega) (by omega)
  obtain ⟨p0, p1⟩ := umod_in (x := P) (N := N) n1
  obtain ⟨k0, k1⟩ := umod_in (x := K) (N := 100000) (by omega)
  generalize umod P N = p at eP p0 p1
  generalize umod K 100000 = k at eK k0 k1
  obtain ⟨x, y, z, m1, m2, m3, m4, m5, m6, m7⟩ := next_plain (k := k) g p0 p1 k0 (by omega)
  have hn := g.has p p0 p1
  have hl := cnt_le p ws
  have w1 : IntKind.i64.wrap (k + (cnt p ws : Int)) = k + (cnt p ws : Int) := IntWalk.i64_in _ (by omega)
  have w2 : IntKind.i64.wrap (k + 1) = k + 1 := IntWalk.i64_in _ (by omega)
  have w3 : IntKind.i64.wrap (x + F) = y := by rw [m4]; exact IntWalk.i64_in _ (by omega)
  have M1 := Lib.hid m1
  have M2 := Lib.hid m2
  have M3 := Lib.hid m3
  clear hr hc i0 g m1 m2 m3 m4
  go_enter Try.func4, Try.ntmps4
  go_wp2_with fail
  refine (works_true _).mono ?_
  rintro e w1 ⟨rfl, hb⟩
  have i1 := I0.out.next hb
  have I1 := Lib.hid i1
  obtain ⟨_, _, cF, cS, cN, cT, cP, cK, _⟩ := i1
  clear hb
  go_wp2_with fail
  refine (check_at _ I1.out.row HC.out G.out.is).mono ?_
  rintro e w2 ⟨rfl, hb⟩
  have i2 := I1.out.next hb
  have I2 := Lib.hid i2
  clear hb cF cS cN cT cP cK I1
  obtain ⟨_, _, cF, cS, cN, cT, cP, cK, _⟩ := i2
  go_wp2_with fail
  simp only [eP, eK]
  go_loopw [9, 45] (fun mn i wr => ∃ m : Nat, m ≤ ws.length ∧ i = .int .i64 m ∧ mn = .int .i64 (cnt p (ws.take m) : Nat) ∧ Bx w wr F (some ad) c ws N T P K)
    (fun _ i _ => ws.length - (intOf i).toNat)
  case atStart => exact ⟨0, Nat.zero_le _, rfl, rfl, I2.out⟩
  case round =>
    obtain ⟨m, hm, rfl, rfl, hB⟩ := hrel
    have HB := Lib.hid hB
    clear cF cS cN cT cP cK
    obtain ⟨_, _, cF, cS, cN, cT, cP, cK, hz1⟩ := hB
    have hz0 : w.heap.size < wr.heap.size := by omega
    by_cases hlt : m < ws.length
    · obtain ⟨c0, c1, c2⟩ := at_win HB.out.row hlt
      have hct := cnt_take p ws m hlt
      rw [rd_win] at hct
      have hcl := cnt_take_le p ws (m + 1)
      generalize hx0 : (win ws m).f0 = x0 at c0 hct
      generalize hx1 : (win ws m).f1 = x1 at c1
      generalize hx2 : (win ws m).f2 = x2 at c2
      have B1 := Lib.hid (HB.out.next (bnew wr (.cells #[.int .i64 x0, .int .i64 x1, .int .i64 x2] 36)))
      by_cases hv : x0 = p
      · rw [if_pos hv] at hct
        have HCT := Lib.hid hct
        have hcn : cnt p (ws.take m) < 9223372036854775807 := by omega
        clear hct
        subst hv
        go_wp2
        go_roundw
        case rel => exact ⟨m + 1, by omega, by go_num, by rw [HCT.out]; go_num, B1.out⟩
        case measure => simp [intOf]; omega
      · rw [if_neg hv] at hct
        have HCT := Lib.hid hct
        clear hct
        go_wp2
        go_roundw
        case rel => exact ⟨m + 1, by omega, by go_num, by rw [HCT.out]; rfl, B1.out⟩
        case measure => simp [intOf]; omega
    · obtain rfl : m = ws.length := by omega
      have ht : cnt p (ws.take ws.length) = cnt p ws := by rw [List.take_length]
      rw [ht]
      clear ht
      go_wp2_with fail
      refine (starts_all F _ c ws N p k _ HB.out.row HC.out).mono ?_
      rw [M1.out]
      rintro e w3 ⟨rfl, hb⟩
      have i3 := HB.out.next hb
      have I3 := Lib.hid i3
      clear hb cF cS cN cT cP cK hz0 hz1
      obtain ⟨_, _, cF, cS, cN, cT, cP, cK, _⟩ := i3
      go_wp2_with fail
      refine (starts_all F _ c ws N p (k + (cnt p ws : Int)) _ I3.out.row HC.out).mono ?_
      rw [M2.out]
      rintro e w4 ⟨rfl, hb⟩
      have i4 := I3.out.next hb
      have I4 := Lib.hid i4
      clear hb cF cS cN cT cP cK
      obtain ⟨_, _, cF, cS, cN, cT, cP, cK, _⟩ := i4
      go_wp2_with fail
      refine (starts_all F _ c ws N p (k + 1) _ I4.out.row HC.out).mono ?_
      rw [M3.out]
      rintro e w5 ⟨rfl, hb⟩
      have i5 := I4.out.next hb
      have I5 := Lib.hid i5
      clear hb cF cS cN cT cP cK
      obtain ⟨_, _, cF, cS, cN, cT, cP, cK, _⟩ := i5
      go_wp2
      go_ret
      exact ⟨by simp, I5.out.bel⟩

/-- **PlanNext** is true, whatever the plan and the ask -/
theorem next_any (F : Int) (A : Option Addr) (c : Nat) (ws : List S36) (N T P K : Int) (w : World) (hr : Kd.C k36 w A ws.length ws) (hc : ws.length ≤ c) :
    Calls Try.prog 4 #[.agg #[.int .i64 F, .slice A ws.length c], .agg #[.int .i64 N, .int .i64 T, .int .i64 P, .int .i64 K]] w fun e w' => e = .returned (.bool true) ∧ Below w.heap.size w w' := by
  by_cases he : (checkV F ws N).2 = 0
  · exact next_good F A c ws N T P K w hr hc (good_of he)
  · exact next_err F A c ws N T P K _ _ w hr hc rfl he

end Go.Proofs.Ytdajedggennljaa.PPlanNext
