/-
  The walk of layer 21's law function PlanAnswers.
-/
import Derived.Test.YtdajedggennljaaPlanAnswersPlQ
import Derived.Test.YtdajedggennljaaPlanAnswersPlG
import Derived.Test.YtdajedggennljaaPlanAnswersPlE
namespace Go.Proofs.Ytdajedggennljaa.PPlanAnswers
open Go.RowKit Go.Shelf Go.Proofs.YtdajedggennljaaW.PrintWords Go.Proofs.YtdajedggennljaaW.PrintLast Go.Proofs.YtdajedggennljaaW.PrintMore
attribute [local go_sem] Oper.semAt_some

theorem gaps_err (F : Int) (A : Option Addr) (c : Nat) (ws : List S36) (N a e : Int) (w : World) (hr : Kd.C k36 w A ws.length ws) (hc : ws.length ≤ c) (hv : checkV F ws N = (a, e)) (he : ¬ e = 0) :
    Calls Try.prog 16 #[.agg #[.int .i64 F, .slice A ws.length c], .int .i64 N] w fun x w' => x = .returned (.tuple #[.slice none 0 0, .int .i64 e]) ∧ Below w.heap.size w w' := by
  have HR := Lib.hid hr
  have HC := Lib.hid hc
  have HV := Lib.hid hv
  clear hr hc hv
  go_enter Try.func16, Try.ntmps16
  go_wp2_with fail
  refine (check_at _ (Kd.C_alloc HR.out _) HC.out HV.out).mono ?_
  rintro e w1 ⟨rfl, hb⟩
  go_wp2
  go_ret2
  exact ⟨rfl, bnext (bnew _ _) hb⟩
theorem gaps_any (F : Int) (A : Option Addr) (c : Nat) (ws : List S36) (N : Int) (w : World) (hr : Kd.C k36 w A ws.length ws) (hc : ws.length ≤ c) :
    Calls Try.prog 16 #[.agg #[.int .i64 F, .slice A ws.length c], .int .i64 N] w fun e w' => ∃ v, e = .returned (.tuple #[v, .int .i64 (gapsV F ws N).2]) ∧ Kd.R k36 36 w' w.heap.size (fun _ => True) v (gapsV F ws N).1 ∧ Below w.heap.size w w' := by
  by_cases he : (checkV F ws N).2 = 0
  · have g := good_of he
    obtain ⟨ad, rfl⟩ := C_some hr g.l1
    have hv : gapsV F ws N = (gp 0 (ws ++ [⟨0, F, 0⟩]), 0) := by unfold gapsV; rw [if_pos he]
    rw [hv]
    exact gaps_try F ad c ws N w hr hc g
  · have hv : gapsV F ws N = ([], (checkV F ws N).2) := by unfold gapsV; rw [if_neg he]
    rw [hv]
    refine (gaps_err F A c ws N _ _ w hr hc rfl he).mono ?_
    rintro e w' ⟨rfl, hb⟩
    exact ⟨_, rfl, Kd.R_nil _ _ _ _ _, hb⟩
theorem gapsV_len (F : Int) (ws : List S36) (N : Int) (w : World) {A : Option Addr} (h : Kd.C k36 w A (gapsV F ws N).1.length (gapsV F ws N).1) : (gapsV F ws N).1.length ≤ maxLen := Kd.C_max h

structure Bo (B : Nat) (W : World) (F : Int) (A : Option Addr) (c : Nat) (ws : List S36) : Prop where
  row : Kd.C k36 W A ws.length ws
  cF : W.cell? ⟨B, 0, none⟩ = some (.int .i64 F)
  cS : W.cell? ⟨B, 1, none⟩ = some (.slice A ws.length c)
  lt : B < W.heap.size
theorem Bo.next {B : Nat} {W W' : World} {F : Int} {A : Option Addr} {c : Nat} {ws : List S36} (h : Bo B W F A c ws) (hb : Below W.heap.size W W') : Bo B W' F A c ws :=
  ⟨Kd.C_below h.row hb, (hb.cell (p := ⟨B, 0, none⟩) h.lt).trans h.cF, (hb.cell (p := ⟨B, 1, none⟩) h.lt).trans h.cS, Nat.lt_of_lt_of_le h.lt hb.size⟩

set_option maxRecDepth 100000 in
set_option maxHeartbeats 4000000 in
theorem answers_any (F : Int) (A : Option Addr) (c : Nat) (ws : List S36) (N T P K : Int) (w : World) (hr : Kd.C k36 w A ws.length ws) (hc : ws.length ≤ c) (hsz : ws.length < 5864062014805) (hT : T ≤ 9223372036854775807) :
    Calls Try.prog 5 #[.agg #[.int .i64 F, .slice A ws.length c], .agg #[.int .i64 N, .int .i64 T, .int .i64 P, .int .i64 K]] w fun e w' => e = .returned (.bool true) ∧ Below w.heap.size w w' := by
  have HR := Lib.hid hr
  have HC := Lib.hid hc
  have HSZ := Lib.hid hsz
  have HT := Lib.hid hT
  have i0 := Bx.new w F A c ws N T P K 24 26 HR.out
  have I0 := Lib.hid i0
  clear hr hc hsz hT i0
  obtain ⟨ca, ce, hcv⟩ : ∃ a e, checkV F ws N = (a, e) := ⟨_, _, rfl⟩
  obtain ⟨a1, a2, a3, hav⟩ : ∃ a b d, atV F ws N T = (a, b, d) := ⟨_, _, _, rfl⟩
  obtain ⟨s1, s2, hsv⟩ : ∃ a b, startsV F ws N P K = (a, b) := ⟨_, _, rfl⟩
  obtain ⟨g1, g2, hgv⟩ : ∃ a b, gapsV F ws N = (a, b) := ⟨_, _, rfl⟩
  obtain ⟨h1, h2, hhv⟩ : ∃ a b, shareV F ws N P = (a, b) := ⟨_, _, rfl⟩
  have CV := Lib.hid hcv
  have AV := Lib.hid hav
  have SV := Lib.hid hsv
  have GV := Lib.hid hgv
  have HV := Lib.hid hhv
  clear hcv hav hsv hgv hhv
  go_enter Try.func5, Try.ntmps5
  go_wp2_with fail
  refine (capstanlaw21_copied.calls F A c ws F ws _ I0.out.row HC.out (copied_f F ws HSZ.out)).mono ?_
  rintro e w1 ⟨v1, rfl, hv1, hb⟩
  obtain ⟨A1, c1, rfl⟩ := Kd.R_slice hv1
  have hr1 := Kd.R_reads' hv1
  have i1 := I0.out.next hb
  have o1 : Bo w1.heap.size (w1.alloc (.cells #[.int .i64 F, .slice A1 ws.length c1] 24)) F A1 c1 ws := ⟨Kd.C_alloc hr1.2.2 _, by simp [go_sem], by simp [go_sem], by simp⟩
  have i2 := i1.next (bnew w1 (.cells #[.int .i64 F, .slice A1 ws.length c1] 24))
  have HC1 := Lib.hid hr1.2.1
  have O1 := Lib.hid o1
  have I2 := Lib.hid i2
  clear hv1 hr1 hb o1 i2
  obtain ⟨_, _, cF, cS, cN, cT, cP, cK, hz1⟩ := i1
  have hz0 : w.heap.size < w1.heap.size := by omega
  go_wp2_with fail
  refine (check_at _ O1.out.row HC1.out CV.out).mono ?_
  rintro e w3 ⟨rfl, hb⟩
  have i3 := I2.out.next hb
  have o3 := O1.out.next hb
  have I3 := Lib.hid i3
  have O3 := Lib.hid o3
  clear hb O1 I2 cF cS cN cT cP cK hz0 hz1
  obtain ⟨_, _, cF, cS, cN, cT, cP, cK, _⟩ := i3
  obtain ⟨_, oF, oS, _⟩ := o3
  go_wp2_with fail
  refine (capstanref21_Check.calls 100 F A c ws N ca ce _ I3.out.row HC.out (by rw [rcheck_f _ _ _ _ (by omega), CV.out])).mono ?_
  rintro e w4 ⟨rfl, hb⟩
  have i4 := I3.out.next hb
  have o4 := O3.out.next hb
  have I4 := Lib.hid i4
  have O4 := Lib.hid o4
  clear hb O3 I3 cF cS cN cT cP cK oF oS
  obtain ⟨_, _, cF, cS, cN, cT, cP, cK, _⟩ := i4
  obtain ⟨_, oF, oS, _⟩ := o4
  go_wp2_with fail
  refine (plan_at_any F _ _ ws N T _ O4.out.row HC1.out HT.out).mono ?_
  rw [AV.out]
  rintro e w5 ⟨rfl, hb⟩
  have i5 := I4.out.next hb
  have o5 := O4.out.next hb
  have I5 := Lib.hid i5
  have O5 := Lib.hid o5
  clear hb O4 I4 cF cS cN cT cP cK oF oS
  obtain ⟨_, _, cF, cS, cN, cT, cP, cK, _⟩ := i5
  obtain ⟨_, oF, oS, _⟩ := o5
  go_wp2_with fail
  refine (capstanref21_At.calls 100 F A c ws N T a1 a2 a3 _ I5.out.row HC.out (by rw [rat_f _ _ _ _ HT.out _ (by omega), AV.out])).mono ?_
  rintro e w6 ⟨rfl, hb⟩
  have i6 := I5.out.next hb
  have o6 := O5.out.next hb
  have I6 := Lib.hid i6
  have O6 := Lib.hid o6
  clear hb O5 I5 cF cS cN cT cP cK oF oS
  obtain ⟨_, _, cF, cS, cN, cT, cP, cK, _⟩ := i6
  obtain ⟨_, oF, oS, _⟩ := o6
  go_wp2_with fail
  refine (starts_all F _ _ ws N P K _ O6.out.row HC1.out).mono ?_
  rw [SV.out]
  rintro e w7 ⟨rfl, hb⟩
  have i7 := I6.out.next hb
  have o7 := O6.out.next hb
  have I7 := Lib.hid i7
  have O7 := Lib.hid o7
  clear hb O6 I6 cF cS cN cT cP cK oF oS
  obtain ⟨_, _, cF, cS, cN, cT, cP, cK, _⟩ := i7
  obtain ⟨_, oF, oS, _⟩ := o7
  go_wp2_with fail
  refine (capstanref21_Starts.calls 100 F A c ws N P K s1 s2 _ I7.out.row HC.out (by rw [rstarts_f _ _ _ _ _ _ (by omega), SV.out])).mono ?_
  rintro e w8 ⟨rfl, hb⟩
  have i8 := I7.out.next hb
  have o8 := O7.out.next hb
  have I8 := Lib.hid i8
  have O8 := Lib.hid o8
  clear hb O7 I7 cF cS cN cT cP cK oF oS
  obtain ⟨_, _, cF, cS, cN, cT, cP, cK, _⟩ := i8
  obtain ⟨_, oF, oS, _⟩ := o8
  go_wp2_with fail
  refine (gaps_any F _ _ ws N _ O8.out.row HC1.out).mono ?_
  rw [GV.out]
  rintro e w9 ⟨x9, rfl, hx, hb⟩
  have i9 := I8.out.next hb
  have o9 := O8.out.next hb
  have I9 := Lib.hid i9
  have O9 := Lib.hid o9
  obtain ⟨X, cX, rfl⟩ := Kd.R_slice hx
  have hrx := Kd.R_reads' hx
  have RX := Lib.hid hrx.2.2
  have CX := Lib.hid hrx.2.1
  clear hb O8 I8 cF cS cN cT cP cK oF oS hx hrx
  obtain ⟨_, _, cF, cS, cN, cT, cP, cK, _⟩ := i9
  obtain ⟨_, oF, oS, _⟩ := o9
  go_wp2_with fail
  refine (capstanref21_Gaps.calls 100 F A c ws N g1 g2 _ I9.out.row HC.out (by rw [rgaps_f _ _ _ _ (by omega), GV.out])).mono ?_
  rintro e w10 ⟨y10, rfl, hx, hb⟩
  have i10 := I9.out.next hb
  have o10 := O9.out.next hb
  have I10 := Lib.hid i10
  have O10 := Lib.hid o10
  obtain ⟨Y, cY, rfl⟩ := Kd.R_slice hx
  have hrx := Kd.R_reads' hx
  have RY := Lib.hid hrx.2.2
  have CY := Lib.hid hrx.2.1
  have RX10 := Lib.hid (Kd.C_below RX.out hb)
  clear hb O9 I9 cF cS cN cT cP cK oF oS hx hrx RX
  obtain ⟨_, _, cF, cS, cN, cT, cP, cK, _⟩ := i10
  obtain ⟨_, oF, oS, _⟩ := o10
  go_wp2_with fail
  refine (share_any F _ _ ws N P _ O10.out.row HC1.out).mono ?_
  rw [HV.out]
  rintro e w11 ⟨rfl, hb⟩
  have i11 := I10.out.next hb
  have o11 := O10.out.next hb
  have I11 := Lib.hid i11
  have O11 := Lib.hid o11
  have RX11 := Lib.hid (Kd.C_below RX10.out hb)
  have RY11 := Lib.hid (Kd.C_below RY.out hb)
  clear hb O10 I10 cF cS cN cT cP cK oF oS RX10 RY
  obtain ⟨_, _, cF, cS, cN, cT, cP, cK, _⟩ := i11
  obtain ⟨_, oF, oS, _⟩ := o11
  go_wp2_with fail
  refine (capstanref21_Share.calls 100 F A c ws N P h1 h2 _ I11.out.row HC.out (by rw [rshare_f _ _ _ _ _ (by omega), HV.out])).mono ?_
  rintro e w12 ⟨rfl, hb⟩
  have i12 := I11.out.next hb
  have o12 := O11.out.next hb
  have I12 := Lib.hid i12
  have O12 := Lib.hid o12
  have RX12 := Lib.hid (Kd.C_below RX11.out hb)
  have RY12 := Lib.hid (Kd.C_below RY11.out hb)
  clear hb O11 I11 cF cS cN cT cP cK oF oS RX11 RY11
  obtain ⟨_, _, cF, cS, cN, cT, cP, cK, _⟩ := i12
  obtain ⟨_, oF, oS, _⟩ := o12
  go_wp2_with fail
  refine (capstanlaw21_same.calls (g1.length + 1) X cX g1 Y cY g1 true _ RX12.out CX.out RY12.out CY.out (same_f _ g1 (Kd.C_max RX12.out) (by omega))).mono ?_
  rintro e w13 ⟨rfl, hdr⟩
  have hb := hdr.below
  have i13 := I12.out.next hb
  have o13 := O12.out.next hb
  have I13 := Lib.hid i13
  have O13 := Lib.hid o13
  clear hb hdr O12 I12 cF cS cN cT cP cK oF oS
  obtain ⟨_, _, cF, cS, cN, cT, cP, cK, _⟩ := i13
  obtain ⟨_, oF, oS, _⟩ := o13
  go_wp2_with fail
  refine (capstanlaw21_same.calls (ws.length + 1) A1 c1 ws A c ws true _ O13.out.row HC1.out I13.out.row HC.out (same_f _ ws (Kd.C_max I13.out.row) (by omega))).mono ?_
  rintro e w14 ⟨rfl, hdr⟩
  have hb := hdr.below
  have i14 := I13.out.next hb
  have I14 := Lib.hid i14
  clear hb hdr O13 I13 cF cS cN cT cP cK oF oS
  go_wp2_with fail
  refine (works_true _).mono ?_
  rintro e w15 ⟨rfl, hb⟩
  go_wp2
  go_ret
  exact ⟨by simp, (I14.out.next hb).bel⟩

end Go.Proofs.Ytdajedggennljaa.PPlanAnswers
