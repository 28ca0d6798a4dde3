/-
  The walk of the law BlockEdges.
-/
import Derived.Test.YtefflkmegodafaaDoorBlockKeepsBlO
namespace Go.Proofs.YtefflkmegodafaaDoor.PBlockKeeps
open Go.RowKit Go.Proofs.YtefflkmegodafaaDoorW.PrintWords Go.Proofs.YtefflkmegodafaaDoorW.PrintLast Go.Proofs.YtefflkmegodafaaDoorW.PrintMore
attribute [local go_sem] Oper.semAt_some

theorem u2' (x : Int) : Bit (wrap64 ((IntKind.u64.wrap x).tmod 2)) := by
  have e : IntKind.u64.wrap x = x % 18446744073709551616 := by simp [IntKind.wrap, IntKind.signed, IntKind.bits]
  have h0 : 0 ≤ x % 18446744073709551616 := by omega
  rw [e, Int.tmod_eq_emod_of_nonneg h0]
  unfold Bit wrap64
  omega
theorem i16_in (x : Int) : I16 (wrap64 (IntKind.i16.wrap x)) := by
  have e : IntKind.i16.wrap x = (x + 32768) % 65536 - 32768 := Num.w16 x
  rw [e]
  unfold I16 wrap64
  omega
/-- where a counter stands -/
def UpAt (F C u : Int) : Prop := u = min 32767 (F + C)
def DownAt (F C d : Int) : Prop := d = max (-32768) (F - C)
/-- what holds at the head of a round of BlockEdges -/
def EdgesAt (B : Nat) (w : World) (F C : Int) (v1 v2 v3 v4 s : Value) (W : World) : Prop :=
  ∃ g1 c1 g2 c2 g3 c3 g4 c4 : Nat, ∃ z1 y1 z2 y2 z3 y3 u z4 y4 d m : Int, v1 = .slice (some ⟨g1, 0, none⟩) 3 c1 ∧ v2 = .slice (some ⟨g2, 0, none⟩) 3 c2 ∧ v3 = .slice (some ⟨g3, 0, none⟩) 6 c3 ∧ v4 = .slice (some ⟨g4, 0, none⟩) 6 c4 ∧ s = .int .i64 m ∧
    Row B W g1 c1 [z1, y1, m] ∧ Row B W g2 c2 [z2, y2, m] ∧ Row B W g3 c3 [z3, 0, 10, y3, u, m] ∧ Row B W g4 c4 [z4, 0, 10, y4, d, m] ∧ g1 < g2 ∧ g2 < g3 ∧ g3 < g4 ∧
    Bit y1 ∧ Bit y2 ∧ Bit y3 ∧ Bit y4 ∧ Bit m ∧ UpAt F C u ∧ DownAt F C d ∧ Below B w W
theorem up_in {F C u : Int} (hF : I16 F) (h0 : 0 ≤ C) (h : UpAt F C u) : I16 u := by unfold UpAt at h; unfold I16 at *; omega
theorem down_in {F C u : Int} (hF : I16 F) (h0 : 0 ≤ C) (h : DownAt F C u) : I16 u := by unfold DownAt at h; unfold I16 at *; omega
theorem bitI_bit (b : Bool) : Bit (bitI b) := by cases b; exact .inl rfl; exact .inr rfl
theorem up_stay {F C u m n : Int} (h : UpAt F C u) (hm : ¬ (n = 1 ∧ m = 0)) : UpAt F C (cvV n 0 u m 1 0) := by
  have e : cvV n 0 u m 1 0 = u := by unfold cvV; rw [if_neg (by decide), if_neg (fun h => hm ⟨h.1, h.2.1⟩)]
  rw [e]; exact h
theorem down_stay {F C u m n : Int} (h : DownAt F C u) (hm : ¬ (n = 1 ∧ m = 0)) : DownAt F C (cvV n 0 u m (-1) 10) := by
  have e : cvV n 0 u m (-1) 10 = u := by unfold cvV; rw [if_neg (by decide), if_neg (fun h => hm ⟨h.1, h.2.1⟩)]
  rw [e]; exact h
theorem up_go {F C u : Int} (hF : I16 F) (h0 : 0 ≤ C) (h : UpAt F C u) : UpAt F (C + 1) (cvV 1 0 u 0 1 0) := by
  unfold UpAt at *; unfold I16 at hF; unfold cvV
  rw [if_neg (by decide)]
  split <;> omega
theorem down_go {F C u : Int} (hF : I16 F) (h0 : 0 ≤ C) (h : DownAt F C u) : DownAt F (C + 1) (cvV 1 0 u 0 (-1) 10) := by
  unfold DownAt at *; unfold I16 at hF; unfold cvV
  rw [if_neg (by decide)]
  split <;> omega
theorem wrong_cnt {k a b c d e f : Int} (h : k = 4 ∨ k = 5) (ha : Bit a) (hb : Bit b) (hc : -32768 ≤ c ∧ c ≤ 32767) (hd : Bit d) (he : I16 e) (hf : Bit f) : block_wrong.f 8 k [a, b, c, d, e, f] = some 0 := wrong_count h ha hb hc hd he hf

set_option maxRecDepth 100000 in
set_option maxHeartbeats 8000000 in
theorem edges_any (A1 : Option Addr) (n1 cp1 : Nat) (xs : List Int) (first : Int) (w : World) (hx : ReadsInt w .i64 A1 n1 xs) :
    Calls Tryd.prog 5 #[.slice A1 n1 cp1, .int .i64 first] w fun e w' => e = .returned (.bool true) ∧ Below w.heap.size w w' := by
  have HX := Lib.hid hx
  clear hx
  go_enter Tryd.func5, Tryd.ntmps5
  go_wp2_with fail
  refine (works_any _).mono ?_
  rintro e w1 ⟨rfl, hb⟩
  have HB := Lib.hid hb
  clear hb
  go_wp2_with fail
  have hF := i16_in first
  generalize wrap64 (IntKind.i16.wrap first) = F at hF ⊢
  have h1 : Row w.heap.size (w1.alloc (.cells #[.int .i64 0, .int .i64 0, .int .i64 0] 2)) w1.heap.size 3 [0, 0, 0] := Row.lit w1 [0, 0, 0] HB.out.size (by simp)
  have b1 := HB.out.alloc HB.out.size (.cells #[.int .i64 0, .int .i64 0, .int .i64 0] 2)
  have z1 : (w1.alloc (.cells #[.int .i64 0, .int .i64 0, .int .i64 0] 2)).heap.size = w1.heap.size + 1 := by simp
  generalize w1.alloc (.cells #[.int .i64 0, .int .i64 0, .int .i64 0] 2) = w2 at h1 b1 z1 ⊢
  rw [← z1]
  have h2 : Row w.heap.size (w2.alloc (.cells #[.int .i64 0, .int .i64 0, .int .i64 0] 2)) w2.heap.size 3 [0, 0, 0] := Row.lit w2 [0, 0, 0] b1.size (by simp)
  have b2 := b1.alloc b1.size (.cells #[.int .i64 0, .int .i64 0, .int .i64 0] 2)
  have z2 : (w2.alloc (.cells #[.int .i64 0, .int .i64 0, .int .i64 0] 2)).heap.size = w2.heap.size + 1 := by simp
  have h1 := h1.alloc (.cells #[.int .i64 0, .int .i64 0, .int .i64 0] 2)
  generalize w2.alloc (.cells #[.int .i64 0, .int .i64 0, .int .i64 0] 2) = w3 at h1 h2 b2 z2 ⊢
  rw [← z2]
  clear b1
  have h3 : Row w.heap.size (w3.alloc (.cells #[.int .i64 0, .int .i64 0, .int .i64 10, .int .i64 0, .int .i64 F, .int .i64 0] 2)) w3.heap.size 6 [0, 0, 10, 0, F, 0] := Row.lit w3 [0, 0, 10, 0, F, 0] b2.size (by simp)
  have b3 := b2.alloc b2.size (.cells #[.int .i64 0, .int .i64 0, .int .i64 10, .int .i64 0, .int .i64 F, .int .i64 0] 2)
  have z3 : (w3.alloc (.cells #[.int .i64 0, .int .i64 0, .int .i64 10, .int .i64 0, .int .i64 F, .int .i64 0] 2)).heap.size = w3.heap.size + 1 := by simp
  have h1 := h1.alloc (.cells #[.int .i64 0, .int .i64 0, .int .i64 10, .int .i64 0, .int .i64 F, .int .i64 0] 2)
  have h2 := h2.alloc (.cells #[.int .i64 0, .int .i64 0, .int .i64 10, .int .i64 0, .int .i64 F, .int .i64 0] 2)
  generalize w3.alloc (.cells #[.int .i64 0, .int .i64 0, .int .i64 10, .int .i64 0, .int .i64 F, .int .i64 0] 2) = w4 at h1 h2 h3 b3 z3 ⊢
  rw [← z3]
  clear b2
  have h4 : Row w.heap.size (w4.alloc (.cells #[.int .i64 0, .int .i64 0, .int .i64 10, .int .i64 0, .int .i64 F, .int .i64 0] 2)) w4.heap.size 6 [0, 0, 10, 0, F, 0] := Row.lit w4 [0, 0, 10, 0, F, 0] b3.size (by simp)
  have b4 := b3.alloc b3.size (.cells #[.int .i64 0, .int .i64 0, .int .i64 10, .int .i64 0, .int .i64 F, .int .i64 0] 2)
  have z4 : (w4.alloc (.cells #[.int .i64 0, .int .i64 0, .int .i64 10, .int .i64 0, .int .i64 F, .int .i64 0] 2)).heap.size = w4.heap.size + 1 := by simp
  have h1 := h1.alloc (.cells #[.int .i64 0, .int .i64 0, .int .i64 10, .int .i64 0, .int .i64 F, .int .i64 0] 2)
  have h2 := h2.alloc (.cells #[.int .i64 0, .int .i64 0, .int .i64 10, .int .i64 0, .int .i64 F, .int .i64 0] 2)
  have h3 := h3.alloc (.cells #[.int .i64 0, .int .i64 0, .int .i64 10, .int .i64 0, .int .i64 F, .int .i64 0] 2)
  generalize w4.alloc (.cells #[.int .i64 0, .int .i64 0, .int .i64 10, .int .i64 0, .int .i64 F, .int .i64 0] 2) = w5 at h1 h2 h3 h4 b4 z4 ⊢
  clear b3
  have HS : Hid (EdgesAt w.heap.size w F 0 (.slice (some ⟨w1.heap.size, 0, none⟩) 3 3) (.slice (some ⟨w2.heap.size, 0, none⟩) 3 3) (.slice (some ⟨w3.heap.size, 0, none⟩) 6 6) (.slice (some ⟨w4.heap.size, 0, none⟩) 6 6) (.int .i64 0) w5) :=
    Lib.hid ⟨_, _, _, _, _, _, _, _, _, _, _, _, _, _, _, _, _, _, _, rfl, rfl, rfl, rfl, rfl, h1, h2, h3, h4, by omega, by omega, by omega, bit0, bit0, bit0, bit0, bit0, by unfold UpAt; unfold I16 at hF; omega, by unfold DownAt; unfold I16 at hF; omega, b4⟩
  have HF := Lib.hid hF
  obtain ⟨hF0, hF1⟩ := hF
  clear h1 h2 h3 h4 b4 z1 z2 z3 z4 HB
  go_loopw [5, 6, 7, 8, 9, 10, 11] (fun v1 v2 v3 v4 s c i wr => ∃ k C : Nat, k ≤ 100 ∧ C ≤ k ∧ i = .int .i64 k ∧ c = .int .i64 C ∧ EdgesAt w.heap.size w F C v1 v2 v3 v4 s wr) (fun _ _ _ _ _ _ i _ => 100 - (intOf i).toNat)
  case atStart => exact ⟨0, 0, by omega, by omega, rfl, rfl, HS.out⟩
  case round =>
    clear HS
    obtain ⟨k, C, hk, hC, rfl, rfl, g1, c1, g2, c2, g3, c3, g4, c4, z1, y1, z2, y2, z3, y3, u, z4, y4, d, m, rfl, rfl, rfl, rfl, rfl, hr1, hr2, hr3, hr4, n12, n23, n34, q1, q2, q3, q4, qm, hU, hD, hB⟩ := hrel
    rename World => wr
    have HR1 := Lib.hid hr1
    have HR2 := Lib.hid hr2
    have HR3 := Lib.hid hr3
    have HR4 := Lib.hid hr4
    have HQ1 := Lib.hid q1
    have HQ2 := Lib.hid q2
    have HQ3 := Lib.hid q3
    have HQ4 := Lib.hid q4
    have HU := Lib.hid hU
    have HD := Lib.hid hD
    have HB := Lib.hid hB
    have UI := Lib.hid (up_in HF.out (by omega) hU)
    have DI := Lib.hid (down_in HF.out (by omega) hD)
    have m12 : g1 ≠ g2 := by omega
    have m13 : g1 ≠ g3 := by omega
    have m14 : g1 ≠ g4 := by omega
    have m21 : g2 ≠ g1 := by omega
    have m23 : g2 ≠ g3 := by omega
    have m24 : g2 ≠ g4 := by omega
    have m31 : g3 ≠ g1 := by omega
    have m32 : g3 ≠ g2 := by omega
    have m34 : g3 ≠ g4 := by omega
    have m41 : g4 ≠ g1 := by omega
    have m42 : g4 ≠ g2 := by omega
    have m43 : g4 ≠ g3 := by omega
    clear hr1 hr2 hr3 hr4 q1 q2 q3 q4 hU hD hB n12 n23 n34
    by_cases a1 : k < n1
    · by_cases a3 : (k : Int) < 100
      · obtain ⟨ad1, rfl, x1⟩ := HX.out.at_ (k : Int) (by omega) (by omega)
        have t1 := pw_cell_below HB.out x1
        rw [Int.toNat_natCast] at t1
        clear x1
        obtain ⟨p1, s1⟩ := HR1.out.cell 0 (by simp)
        obtain ⟨p2, s2⟩ := HR2.out.cell 0 (by simp)
        obtain ⟨p3, s3⟩ := HR3.out.cell 0 (by simp)
        obtain ⟨p4, s4⟩ := HR4.out.cell 0 (by simp)
        go_wp2_with fail
        have bs := u2' (rd xs k)
        generalize wrap64 ((IntKind.u64.wrap (rd xs ↑k)).tmod 2) = n at bs ⊢
        clear t1 p1 p2 p3 p4 s1 s2 s3 s4
        rcases bs with rfl | rfl <;> rcases qm with rfl | rfl
        · have P1 := Lib.hid ((((HR1.out.put 0 0).far 0 (.int .i64 0) m21).far 0 (.int .i64 0) m31).far 0 (.int .i64 0) m41)
          have P2 := Lib.hid ((((HR2.out.far 0 (.int .i64 0) m12).put 0 0).far 0 (.int .i64 0) m32).far 0 (.int .i64 0) m42)
          have P3 := Lib.hid ((((HR3.out.far 0 (.int .i64 0) m13).far 0 (.int .i64 0) m23).put 0 0).far 0 (.int .i64 0) m43)
          have P4 := Lib.hid ((((HR4.out.far 0 (.int .i64 0) m14).far 0 (.int .i64 0) m24).far 0 (.int .i64 0) m34).put 0 0)
          have B4 := Lib.hid ((((HB.out.setCell (p := ⟨g1, 0, none⟩) HR1.out.ge (.int .i64 0)).setCell (p := ⟨g2, 0, none⟩) HR2.out.ge (.int .i64 0)).setCell (p := ⟨g3, 0, none⟩) HR3.out.ge (.int .i64 0)).setCell (p := ⟨g4, 0, none⟩) HR4.out.ge (.int .i64 0))
          clear HR1 HR2 HR3 HR4 HB m12 m13 m14 m21 m23 m24 m31 m32 m34 m41 m42 m43
          have hd1 : Does 6 0 [0, y1, 0] [0, 0, 0] := by
            have e1 : riseV 0 0 = [0, 0, 0] := by simp [riseV, bitI]
            rw [← e1]; exact does_rise bit0 bit0
          have hd2 : Does 7 0 [0, y2, 0] [0, 0, 0] := by
            have e1 : fallV 0 0 = [0, 0, 0] := by simp [fallV, bitI]
            rw [← e1]; exact does_fall bit0 bit0
          have hd3 := does_ctu (a := 0) (b := 0) (c := 10) (d := y3) (e := u) (f := 0) (now := 0) bit0 bit0 bit0 UI.out
          have hu3 : UpAt F (C : Int) (cvV 0 0 u 0 1 0) := up_stay HU.out (by decide)
          have hd4 := does_ctd (a := 0) (b := 0) (c := 10) (d := y4) (e := d) (f := 0) (now := 0) bit0 bit0 bit0 DI.out
          have hu4 : DownAt F (C : Int) (cvV 0 0 d 0 (-1) 10) := down_stay HD.out (by decide)
          unfold ctuV at hd3
          unfold ctdV at hd4
          generalize cvV 0 0 u 0 1 0 = u' at hd3 hu3
          generalize cvV 0 0 d 0 (-1) 10 = d' at hd4 hu4
          have b3 := bitI_bit (decide (10 ≤ u'))
          have b4 := bitI_bit (decide (d' ≤ 0))
          generalize bitI (decide (10 ≤ u')) = y3' at hd3 b3
          generalize bitI (decide (d' ≤ 0)) = y4' at hd4 b4
          have D1 := Lib.hid @hd1
          have D2 := Lib.hid @hd2
          have D3 := Lib.hid @hd3
          have D4 := Lib.hid @hd4
          have B3 := Lib.hid b3
          have Y4 := Lib.hid b4
          have HU3 := Lib.hid hu3
          have HD4 := Lib.hid hu4
          clear hd1 hd2 hd3 hd4 hu3 hu4 b3 b4
          refine (step_row D1.out (by simp) (by simp) (by decide) (by decide) (wrong_three (by omega) bit0 HQ1.out bit0) P1.out).mono ?_
          rintro x w6 ⟨k1, e1, rfl, hr, hb⟩
          have R1 := Lib.hid (hr.lower B4.out.size)
          have P2_ := Lib.hid (P2.out.below hb)
          have P3_ := Lib.hid (P3.out.below hb)
          have P4_ := Lib.hid (P4.out.below hb)
          have B5 := Lib.hid (B4.out.trans (hb.mono B4.out.size))
          clear hr hb P1 B4 P2 P3 P4
          have P2 := P2_
          clear P2_
          have P3 := P3_
          clear P3_
          have P4 := P4_
          clear P4_
          go_wp2_with fail
          refine (step_row D2.out (by simp) (by simp) (by decide) (by decide) (wrong_three (by omega) bit0 HQ2.out bit0) P2.out).mono ?_
          rintro x w7 ⟨k2, e2, rfl, hr, hb⟩
          have R2 := Lib.hid (hr.lower B5.out.size)
          have N12 := Lib.hid (Nat.lt_of_lt_of_le R1.out.lt hr.ge)
          have Q12 := Lib.hid (R1.out.below hb)
          have P3_ := Lib.hid (P3.out.below hb)
          have P4_ := Lib.hid (P4.out.below hb)
          have B6 := Lib.hid (B5.out.trans (hb.mono B5.out.size))
          clear hr hb P2 B5 R1 P3 P4
          have R1 := Q12
          clear Q12
          have P3 := P3_
          clear P3_
          have P4 := P4_
          clear P4_
          go_wp2_with fail
          refine (step_row D3.out (by simp) (by simp) (by decide) (by decide) (wrong_cnt (by omega) bit0 bit0 (by omega) HQ3.out UI.out bit0) P3.out).mono ?_
          rintro x w8 ⟨k3, e3, rfl, hr, hb⟩
          have R3 := Lib.hid (hr.lower B6.out.size)
          have N23 := Lib.hid (Nat.lt_of_lt_of_le R2.out.lt hr.ge)
          have Q13 := Lib.hid (R1.out.below hb)
          have Q23 := Lib.hid (R2.out.below hb)
          have P4_ := Lib.hid (P4.out.below hb)
          have B7 := Lib.hid (B6.out.trans (hb.mono B6.out.size))
          clear hr hb P3 B6 R1 R2 P4
          have R1 := Q13
          clear Q13
          have R2 := Q23
          clear Q23
          have P4 := P4_
          clear P4_
          go_wp2_with fail
          refine (step_row D4.out (by simp) (by simp) (by decide) (by decide) (wrong_cnt (by omega) bit0 bit0 (by omega) HQ4.out DI.out bit0) P4.out).mono ?_
          rintro x w9 ⟨k4, e4, rfl, hr, hb⟩
          have R4 := Lib.hid (hr.lower B7.out.size)
          have N34 := Lib.hid (Nat.lt_of_lt_of_le R3.out.lt hr.ge)
          have Q14 := Lib.hid (R1.out.below hb)
          have Q24 := Lib.hid (R2.out.below hb)
          have Q34 := Lib.hid (R3.out.below hb)
          have B8 := Lib.hid (B7.out.trans (hb.mono B7.out.size))
          clear hr hb P4 B7 R1 R2 R3
          have R1 := Q14
          clear Q14
          have R2 := Q24
          clear Q24
          have R3 := Q34
          clear Q34
          by_cases hA : F + (C : Int) < 32767 <;> by_cases hE : -32768 < F - (C : Int)
          · obtain rfl : u' = F + (C : Int) := by have h := HU3.out; unfold UpAt at h; omega
            obtain rfl : d' = F - (C : Int) := by have h := HD4.out; unfold DownAt at h; omega
            have t1 := (R1.out.cell 1 (by simp)).1
            have t2 := (R2.out.cell 1 (by simp)).1
            have t3 := (R3.out.cell 4 (by simp)).1
            have t4 := (R4.out.cell 4 (by simp)).1
            go_wp2
            go_roundw
            case rel => exact ⟨k + 1, C, by omega, by omega, by go_num, by first | rfl | go_num, k1, e1, k2, e2, k3, e3, k4, e4, _, _, _, _, _, _, _, _, _, _, _, rfl, rfl, rfl, rfl, rfl, R1.out, R2.out, R3.out, R4.out, N12.out, N23.out, N34.out, bit0, bit0, B3.out, Y4.out, bit0, HU3.out, HD4.out, B8.out⟩
            case measure => simp [intOf]; omega
          · obtain rfl : u' = F + (C : Int) := by have h := HU3.out; unfold UpAt at h; omega
            obtain rfl : d' = -32768 := by have h := HD4.out; unfold DownAt at h; omega
            have t1 := (R1.out.cell 1 (by simp)).1
            have t2 := (R2.out.cell 1 (by simp)).1
            have t3 := (R3.out.cell 4 (by simp)).1
            have t4 := (R4.out.cell 4 (by simp)).1
            go_wp2
            go_roundw
            case rel => exact ⟨k + 1, C, by omega, by omega, by go_num, by first | rfl | go_num, k1, e1, k2, e2, k3, e3, k4, e4, _, _, _, _, _, _, _, _, _, _, _, rfl, rfl, rfl, rfl, rfl, R1.out, R2.out, R3.out, R4.out, N12.out, N23.out, N34.out, bit0, bit0, B3.out, Y4.out, bit0, HU3.out, HD4.out, B8.out⟩
            case measure => simp [intOf]; omega
          · obtain rfl : u' = 32767 := by have h := HU3.out; unfold UpAt at h; omega
            obtain rfl : d' = F - (C : Int) := by have h := HD4.out; unfold DownAt at h; omega
            have t1 := (R1.out.cell 1 (by simp)).1
            have t2 := (R2.out.cell 1 (by simp)).1
            have t3 := (R3.out.cell 4 (by simp)).1
            have t4 := (R4.out.cell 4 (by simp)).1
            go_wp2
            go_roundw
            case rel => exact ⟨k + 1, C, by omega, by omega, by go_num, by first | rfl | go_num, k1, e1, k2, e2, k3, e3, k4, e4, _, _, _, _, _, _, _, _, _, _, _, rfl, rfl, rfl, rfl, rfl, R1.out, R2.out, R3.out, R4.out, N12.out, N23.out, N34.out, bit0, bit0, B3.out, Y4.out, bit0, HU3.out, HD4.out, B8.out⟩
            case measure => simp [intOf]; omega
          · obtain rfl : u' = 32767 := by have h := HU3.out; unfold UpAt at h; omega
            obtain rfl : d' = -32768 := by have h := HD4.out; unfold DownAt at h; omega
            have t1 := (R1.out.cell 1 (by simp)).1
            have t2 := (R2.out.cell 1 (by simp)).1
            have t3 := (R3.out.cell 4 (by simp)).1
            have t4 := (R4.out.cell 4 (by simp)).1
            go_wp2
            go_roundw
            case rel => exact ⟨k + 1, C, by omega, by omega, by go_num, by first | rfl | go_num, k1, e1, k2, e2, k3, e3, k4, e4, _, _, _, _, _, _, _, _, _, _, _, rfl, rfl, rfl, rfl, rfl, R1.out, R2.out, R3.out, R4.out, N12.out, N23.out, N34.out, bit0, bit0, B3.out, Y4.out, bit0, HU3.out, HD4.out, B8.out⟩
            case measure => simp [intOf]; omega
        · have P1 := Lib.hid ((((HR1.out.put 0 0).far 0 (.int .i64 0) m21).far 0 (.int .i64 0) m31).far 0 (.int .i64 0) m41)
          have P2 := Lib.hid ((((HR2.out.far 0 (.int .i64 0) m12).put 0 0).far 0 (.int .i64 0) m32).far 0 (.int .i64 0) m42)
          have P3 := Lib.hid ((((HR3.out.far 0 (.int .i64 0) m13).far 0 (.int .i64 0) m23).put 0 0).far 0 (.int .i64 0) m43)
          have P4 := Lib.hid ((((HR4.out.far 0 (.int .i64 0) m14).far 0 (.int .i64 0) m24).far 0 (.int .i64 0) m34).put 0 0)
          have B4 := Lib.hid ((((HB.out.setCell (p := ⟨g1, 0, none⟩) HR1.out.ge (.int .i64 0)).setCell (p := ⟨g2, 0, none⟩) HR2.out.ge (.int .i64 0)).setCell (p := ⟨g3, 0, none⟩) HR3.out.ge (.int .i64 0)).setCell (p := ⟨g4, 0, none⟩) HR4.out.ge (.int .i64 0))
          clear HR1 HR2 HR3 HR4 HB m12 m13 m14 m21 m23 m24 m31 m32 m34 m41 m42 m43
          have hd1 : Does 6 0 [0, y1, 1] [0, 0, 0] := by
            have e1 : riseV 0 1 = [0, 0, 0] := by simp [riseV, bitI]
            rw [← e1]; exact does_rise bit0 bit1
          have hd2 : Does 7 0 [0, y2, 1] [0, 1, 0] := by
            have e1 : fallV 0 1 = [0, 1, 0] := by simp [fallV, bitI]
            rw [← e1]; exact does_fall bit0 bit1
          have hd3 := does_ctu (a := 0) (b := 0) (c := 10) (d := y3) (e := u) (f := 1) (now := 0) bit0 bit0 bit1 UI.out
          have hu3 : UpAt F (C : Int) (cvV 0 0 u 1 1 0) := up_stay HU.out (by decide)
          have hd4 := does_ctd (a := 0) (b := 0) (c := 10) (d := y4) (e := d) (f := 1) (now := 0) bit0 bit0 bit1 DI.out
          have hu4 : DownAt F (C : Int) (cvV 0 0 d 1 (-1) 10) := down_stay HD.out (by decide)
          unfold ctuV at hd3
          unfold ctdV at hd4
          generalize cvV 0 0 u 1 1 0 = u' at hd3 hu3
          generalize cvV 0 0 d 1 (-1) 10 = d' at hd4 hu4
          have b3 := bitI_bit (decide (10 ≤ u'))
          have b4 := bitI_bit (decide (d' ≤ 0))
          generalize bitI (decide (10 ≤ u')) = y3' at hd3 b3
          generalize bitI (decide (d' ≤ 0)) = y4' at hd4 b4
          have D1 := Lib.hid @hd1
          have D2 := Lib.hid @hd2
          have D3 := Lib.hid @hd3
          have D4 := Lib.hid @hd4
          have B3 := Lib.hid b3
          have Y4 := Lib.hid b4
          have HU3 := Lib.hid hu3
          have HD4 := Lib.hid hu4
          clear hd1 hd2 hd3 hd4 hu3 hu4 b3 b4
          refine (step_row D1.out (by simp) (by simp) (by decide) (by decide) (wrong_three (by omega) bit0 HQ1.out bit1) P1.out).mono ?_
          rintro x w6 ⟨k1, e1, rfl, hr, hb⟩
          have R1 := Lib.hid (hr.lower B4.out.size)
          have P2_ := Lib.hid (P2.out.below hb)
          have P3_ := Lib.hid (P3.out.below hb)
          have P4_ := Lib.hid (P4.out.below hb)
          have B5 := Lib.hid (B4.out.trans (hb.mono B4.out.size))
          clear hr hb P1 B4 P2 P3 P4
          have P2 := P2_
          clear P2_
          have P3 := P3_
          clear P3_
          have P4 := P4_
          clear P4_
          go_wp2_with fail
          refine (step_row D2.out (by simp) (by simp) (by decide) (by decide) (wrong_three (by omega) bit0 HQ2.out bit1) P2.out).mono ?_
          rintro x w7 ⟨k2, e2, rfl, hr, hb⟩
          have R2 := Lib.hid (hr.lower B5.out.size)
          have N12 := Lib.hid (Nat.lt_of_lt_of_le R1.out.lt hr.ge)
          have Q12 := Lib.hid (R1.out.below hb)
          have P3_ := Lib.hid (P3.out.below hb)
          have P4_ := Lib.hid (P4.out.below hb)
          have B6 := Lib.hid (B5.out.trans (hb.mono B5.out.size))
          clear hr hb P2 B5 R1 P3 P4
          have R1 := Q12
          clear Q12
          have P3 := P3_
          clear P3_
          have P4 := P4_
          clear P4_
          go_wp2_with fail
          refine (step_row D3.out (by simp) (by simp) (by decide) (by decide) (wrong_cnt (by omega) bit0 bit0 (by omega) HQ3.out UI.out bit1) P3.out).mono ?_
          rintro x w8 ⟨k3, e3, rfl, hr, hb⟩
          have R3 := Lib.hid (hr.lower B6.out.size)
          have N23 := Lib.hid (Nat.lt_of_lt_of_le R2.out.lt hr.ge)
          have Q13 := Lib.hid (R1.out.below hb)
          have Q23 := Lib.hid (R2.out.below hb)
          have P4_ := Lib.hid (P4.out.below hb)
          have B7 := Lib.hid (B6.out.trans (hb.mono B6.out.size))
          clear hr hb P3 B6 R1 R2 P4
          have R1 := Q13
          clear Q13
          have R2 := Q23
          clear Q23
          have P4 := P4_
          clear P4_
          go_wp2_with fail
          refine (step_row D4.out (by simp) (by simp) (by decide) (by decide) (wrong_cnt (by omega) bit0 bit0 (by omega) HQ4.out DI.out bit1) P4.out).mono ?_
          rintro x w9 ⟨k4, e4, rfl, hr, hb⟩
          have R4 := Lib.hid (hr.lower B7.out.size)
          have N34 := Lib.hid (Nat.lt_of_lt_of_le R3.out.lt hr.ge)
          have Q14 := Lib.hid (R1.out.below hb)
          have Q24 := Lib.hid (R2.out.below hb)
          have Q34 := Lib.hid (R3.out.below hb)
          have B8 := Lib.hid (B7.out.trans (hb.mono B7.out.size))
          clear hr hb P4 B7 R1 R2 R3
          have R1 := Q14
          clear Q14
          have R2 := Q24
          clear Q24
          have R3 := Q34
          clear Q34
          by_cases hA : F + (C : Int) < 32767 <;> by_cases hE : -32768 < F - (C : Int)
          · obtain rfl : u' = F + (C : Int) := by have h := HU3.out; unfold UpAt at h; omega
            obtain rfl : d' = F - (C : Int) := by have h := HD4.out; unfold DownAt at h; omega
            have t1 := (R1.out.cell 1 (by simp)).1
            have t2 := (R2.out.cell 1 (by simp)).1
            have t3 := (R3.out.cell 4 (by simp)).1
            have t4 := (R4.out.cell 4 (by simp)).1
            go_wp2
            go_roundw
            case rel => exact ⟨k + 1, C, by omega, by omega, by go_num, by first | rfl | go_num, k1, e1, k2, e2, k3, e3, k4, e4, _, _, _, _, _, _, _, _, _, _, _, rfl, rfl, rfl, rfl, rfl, R1.out, R2.out, R3.out, R4.out, N12.out, N23.out, N34.out, bit0, bit1, B3.out, Y4.out, bit0, HU3.out, HD4.out, B8.out⟩
            case measure => simp [intOf]; omega
          · obtain rfl : u' = F + (C : Int) := by have h := HU3.out; unfold UpAt at h; omega
            obtain rfl : d' = -32768 := by have h := HD4.out; unfold DownAt at h; omega
            have t1 := (R1.out.cell 1 (by simp)).1
            have t2 := (R2.out.cell 1 (by simp)).1
            have t3 := (R3.out.cell 4 (by simp)).1
            have t4 := (R4.out.cell 4 (by simp)).1
            go_wp2
            go_roundw
            case rel => exact ⟨k + 1, C, by omega, by omega, by go_num, by first | rfl | go_num, k1, e1, k2, e2, k3, e3, k4, e4, _, _, _, _, _, _, _, _, _, _, _, rfl, rfl, rfl, rfl, rfl, R1.out, R2.out, R3.out, R4.out, N12.out, N23.out, N34.out, bit0, bit1, B3.out, Y4.out, bit0, HU3.out, HD4.out, B8.out⟩
            case measure => simp [intOf]; omega
          · obtain rfl : u' = 32767 := by have h := HU3.out; unfold UpAt at h; omega
            obtain rfl : d' = F - (C : Int) := by have h := HD4.out; unfold DownAt at h; omega
            have t1 := (R1.out.cell 1 (by simp)).1
            have t2 := (R2.out.cell 1 (by simp)).1
            have t3 := (R3.out.cell 4 (by simp)).1
            have t4 := (R4.out.cell 4 (by simp)).1
            go_wp2
            go_roundw
            case rel => exact ⟨k + 1, C, by omega, by omega, by go_num, by first | rfl | go_num, k1, e1, k2, e2, k3, e3, k4, e4, _, _, _, _, _, _, _, _, _, _, _, rfl, rfl, rfl, rfl, rfl, R1.out, R2.out, R3.out, R4.out, N12.out, N23.out, N34.out, bit0, bit1, B3.out, Y4.out, bit0, HU3.out, HD4.out, B8.out⟩
            case measure => simp [intOf]; omega
          · obtain rfl : u' = 32767 := by have h := HU3.out; unfold UpAt at h; omega
            obtain rfl : d' = -32768 := by have h := HD4.out; unfold DownAt at h; omega
            have t1 := (R1.out.cell 1 (by simp)).1
            have t2 := (R2.out.cell 1 (by simp)).1
            have t3 := (R3.out.cell 4 (by simp)).1
            have t4 := (R4.out.cell 4 (by simp)).1
            go_wp2
            go_roundw
            case rel => exact ⟨k + 1, C, by omega, by omega, by go_num, by first | rfl | go_num, k1, e1, k2, e2, k3, e3, k4, e4, _, _, _, _, _, _, _, _, _, _, _, rfl, rfl, rfl, rfl, rfl, R1.out, R2.out, R3.out, R4.out, N12.out, N23.out, N34.out, bit0, bit1, B3.out, Y4.out, bit0, HU3.out, HD4.out, B8.out⟩
            case measure => simp [intOf]; omega
        · have P1 := Lib.hid ((((HR1.out.put 0 1).far 0 (.int .i64 1) m21).far 0 (.int .i64 1) m31).far 0 (.int .i64 1) m41)
          have P2 := Lib.hid ((((HR2.out.far 0 (.int .i64 1) m12).put 0 1).far 0 (.int .i64 1) m32).far 0 (.int .i64 1) m42)
          have P3 := Lib.hid ((((HR3.out.far 0 (.int .i64 1) m13).far 0 (.int .i64 1) m23).put 0 1).far 0 (.int .i64 1) m43)
          have P4 := Lib.hid ((((HR4.out.far 0 (.int .i64 1) m14).far 0 (.int .i64 1) m24).far 0 (.int .i64 1) m34).put 0 1)
          have B4 := Lib.hid ((((HB.out.setCell (p := ⟨g1, 0, none⟩) HR1.out.ge (.int .i64 1)).setCell (p := ⟨g2, 0, none⟩) HR2.out.ge (.int .i64 1)).setCell (p := ⟨g3, 0, none⟩) HR3.out.ge (.int .i64 1)).setCell (p := ⟨g4, 0, none⟩) HR4.out.ge (.int .i64 1))
          clear HR1 HR2 HR3 HR4 HB m12 m13 m14 m21 m23 m24 m31 m32 m34 m41 m42 m43
          have hd1 : Does 6 0 [1, y1, 0] [1, 1, 1] := by
            have e1 : riseV 1 0 = [1, 1, 1] := by simp [riseV, bitI]
            rw [← e1]; exact does_rise bit1 bit0
          have hd2 : Does 7 0 [1, y2, 0] [1, 0, 1] := by
            have e1 : fallV 1 0 = [1, 0, 1] := by simp [fallV, bitI]
            rw [← e1]; exact does_fall bit1 bit0
          have hd3 := does_ctu (a := 1) (b := 0) (c := 10) (d := y3) (e := u) (f := 0) (now := 0) bit1 bit0 bit0 UI.out
          have hu3 : UpAt F ((C : Int) + 1) (cvV 1 0 u 0 1 0) := up_go HF.out (by omega) HU.out
          have hd4 := does_ctd (a := 1) (b := 0) (c := 10) (d := y4) (e := d) (f := 0) (now := 0) bit1 bit0 bit0 DI.out
          have hu4 : DownAt F ((C : Int) + 1) (cvV 1 0 d 0 (-1) 10) := down_go HF.out (by omega) HD.out
          unfold ctuV at hd3
          unfold ctdV at hd4
          generalize cvV 1 0 u 0 1 0 = u' at hd3 hu3
          generalize cvV 1 0 d 0 (-1) 10 = d' at hd4 hu4
          have b3 := bitI_bit (decide (10 ≤ u'))
          have b4 := bitI_bit (decide (d' ≤ 0))
          generalize bitI (decide (10 ≤ u')) = y3' at hd3 b3
          generalize bitI (decide (d' ≤ 0)) = y4' at hd4 b4
          have D1 := Lib.hid @hd1
          have D2 := Lib.hid @hd2
          have D3 := Lib.hid @hd3
          have D4 := Lib.hid @hd4
          have B3 := Lib.hid b3
          have Y4 := Lib.hid b4
          have HU3 := Lib.hid hu3
          have HD4 := Lib.hid hu4
          clear hd1 hd2 hd3 hd4 hu3 hu4 b3 b4
          refine (step_row D1.out (by simp) (by simp) (by decide) (by decide) (wrong_three (by omega) bit1 HQ1.out bit0) P1.out).mono ?_
          rintro x w6 ⟨k1, e1, rfl, hr, hb⟩
          have R1 := Lib.hid (hr.lower B4.out.size)
          have P2_ := Lib.hid (P2.out.below hb)
          have P3_ := Lib.hid (P3.out.below hb)
          have P4_ := Lib.hid (P4.out.below hb)
          have B5 := Lib.hid (B4.out.trans (hb.mono B4.out.size))
          clear hr hb P1 B4 P2 P3 P4
          have P2 := P2_
          clear P2_
          have P3 := P3_
          clear P3_
          have P4 := P4_
          clear P4_
          go_wp2_with fail
          refine (step_row D2.out (by simp) (by simp) (by decide) (by decide) (wrong_three (by omega) bit1 HQ2.out bit0) P2.out).mono ?_
          rintro x w7 ⟨k2, e2, rfl, hr, hb⟩
          have R2 := Lib.hid (hr.lower B5.out.size)
          have N12 := Lib.hid (Nat.lt_of_lt_of_le R1.out.lt hr.ge)
          have Q12 := Lib.hid (R1.out.below hb)
          have P3_ := Lib.hid (P3.out.below hb)
          have P4_ := Lib.hid (P4.out.below hb)
          have B6 := Lib.hid (B5.out.trans (hb.mono B5.out.size))
          clear hr hb P2 B5 R1 P3 P4
          have R1 := Q12
          clear Q12
          have P3 := P3_
          clear P3_
          have P4 := P4_
          clear P4_
          go_wp2_with fail
          refine (step_row D3.out (by simp) (by simp) (by decide) (by decide) (wrong_cnt (by omega) bit1 bit0 (by omega) HQ3.out UI.out bit0) P3.out).mono ?_
          rintro x w8 ⟨k3, e3, rfl, hr, hb⟩
          have R3 := Lib.hid (hr.lower B6.out.size)
          have N23 := Lib.hid (Nat.lt_of_lt_of_le R2.out.lt hr.ge)
          have Q13 := Lib.hid (R1.out.below hb)
          have Q23 := Lib.hid (R2.out.below hb)
          have P4_ := Lib.hid (P4.out.below hb)
          have B7 := Lib.hid (B6.out.trans (hb.mono B6.out.size))
          clear hr hb P3 B6 R1 R2 P4
          have R1 := Q13
          clear Q13
          have R2 := Q23
          clear Q23
          have P4 := P4_
          clear P4_
          go_wp2_with fail
          refine (step_row D4.out (by simp) (by simp) (by decide) (by decide) (wrong_cnt (by omega) bit1 bit0 (by omega) HQ4.out DI.out bit0) P4.out).mono ?_
          rintro x w9 ⟨k4, e4, rfl, hr, hb⟩
          have R4 := Lib.hid (hr.lower B7.out.size)
          have N34 := Lib.hid (Nat.lt_of_lt_of_le R3.out.lt hr.ge)
          have Q14 := Lib.hid (R1.out.below hb)
          have Q24 := Lib.hid (R2.out.below hb)
          have Q34 := Lib.hid (R3.out.below hb)
          have B8 := Lib.hid (B7.out.trans (hb.mono B7.out.size))
          clear hr hb P4 B7 R1 R2 R3
          have R1 := Q14
          clear Q14
          have R2 := Q24
          clear Q24
          have R3 := Q34
          clear Q34
          by_cases hA : F + ((C : Int) + 1) < 32767 <;> by_cases hE : -32768 < F - ((C : Int) + 1)
          · obtain rfl : u' = F + ((C : Int) + 1) := by have h := HU3.out; unfold UpAt at h; omega
            obtain rfl : d' = F - ((C : Int) + 1) := by have h := HD4.out; unfold DownAt at h; omega
            have t1 := (R1.out.cell 1 (by simp)).1
            have t2 := (R2.out.cell 1 (by simp)).1
            have t3 := (R3.out.cell 4 (by simp)).1
            have t4 := (R4.out.cell 4 (by simp)).1
            go_wp2
            go_roundw
            case rel => exact ⟨k + 1, C + 1, by omega, by omega, by go_num, by first | rfl | go_num, k1, e1, k2, e2, k3, e3, k4, e4, _, _, _, _, _, _, _, _, _, _, _, rfl, rfl, rfl, rfl, rfl, R1.out, R2.out, R3.out, R4.out, N12.out, N23.out, N34.out, bit1, bit0, B3.out, Y4.out, bit1, HU3.out, HD4.out, B8.out⟩
            case measure => simp [intOf]; omega
          · obtain rfl : u' = F + ((C : Int) + 1) := by have h := HU3.out; unfold UpAt at h; omega
            obtain rfl : d' = -32768 := by have h := HD4.out; unfold DownAt at h; omega
            have t1 := (R1.out.cell 1 (by simp)).1
            have t2 := (R2.out.cell 1 (by simp)).1
            have t3 := (R3.out.cell 4 (by simp)).1
            have t4 := (R4.out.cell 4 (by simp)).1
            go_wp2
            go_roundw
            case rel => exact ⟨k + 1, C + 1, by omega, by omega, by go_num, by first | rfl | go_num, k1, e1, k2, e2, k3, e3, k4, e4, _, _, _, _, _, _, _, _, _, _, _, rfl, rfl, rfl, rfl, rfl, R1.out, R2.out, R3.out, R4.out, N12.out, N23.out, N34.out, bit1, bit0, B3.out, Y4.out, bit1, HU3.out, HD4.out, B8.out⟩
            case measure => simp [intOf]; omega
          · obtain rfl : u' = 32767 := by have h := HU3.out; unfold UpAt at h; omega
            obtain rfl : d' = F - ((C : Int) + 1) := by have h := HD4.out; unfold DownAt at h; omega
            have t1 := (R1.out.cell 1 (by simp)).1
            have t2 := (R2.out.cell 1 (by simp)).1
            have t3 := (R3.out.cell 4 (by simp)).1
            have t4 := (R4.out.cell 4 (by simp)).1
            go_wp2
            go_roundw
            case rel => exact ⟨k + 1, C + 1, by omega, by omega, by go_num, by first | rfl | go_num, k1, e1, k2, e2, k3, e3, k4, e4, _, _, _, _, _, _, _, _, _, _, _, rfl, rfl, rfl, rfl, rfl, R1.out, R2.out, R3.out, R4.out, N12.out, N23.out, N34.out, bit1, bit0, B3.out, Y4.out, bit1, HU3.out, HD4.out, B8.out⟩
            case measure => simp [intOf]; omega
          · obtain rfl : u' = 32767 := by have h := HU3.out; unfold UpAt at h; omega
            obtain rfl : d' = -32768 := by have h := HD4.out; unfold DownAt at h; omega
            have t1 := (R1.out.cell 1 (by simp)).1
            have t2 := (R2.out.cell 1 (by simp)).1
            have t3 := (R3.out.cell 4 (by simp)).1
            have t4 := (R4.out.cell 4 (by simp)).1
            go_wp2
            go_roundw
            case rel => exact ⟨k + 1, C + 1, by omega, by omega, by go_num, by first | rfl | go_num, k1, e1, k2, e2, k3, e3, k4, e4, _, _, _, _, _, _, _, _, _, _, _, rfl, rfl, rfl, rfl, rfl, R1.out, R2.out, R3.out, R4.out, N12.out, N23.out, N34.out, bit1, bit0, B3.out, Y4.out, bit1, HU3.out, HD4.out, B8.out⟩
            case measure => simp [intOf]; omega
        · have P1 := Lib.hid ((((HR1.out.put 0 1).far 0 (.int .i64 1) m21).far 0 (.int .i64 1) m31).far 0 (.int .i64 1) m41)
          have P2 := Lib.hid ((((HR2.out.far 0 (.int .i64 1) m12).put 0 1).far 0 (.int .i64 1) m32).far 0 (.int .i64 1) m42)
          have P3 := Lib.hid ((((HR3.out.far 0 (.int .i64 1) m13).far 0 (.int .i64 1) m23).put 0 1).far 0 (.int .i64 1) m43)
          have P4 := Lib.hid ((((HR4.out.far 0 (.int .i64 1) m14).far 0 (.int .i64 1) m24).far 0 (.int .i64 1) m34).put 0 1)
          have B4 := Lib.hid ((((HB.out.setCell (p := ⟨g1, 0, none⟩) HR1.out.ge (.int .i64 1)).setCell (p := ⟨g2, 0, none⟩) HR2.out.ge (.int .i64 1)).setCell (p := ⟨g3, 0, none⟩) HR3.out.ge (.int .i64 1)).setCell (p := ⟨g4, 0, none⟩) HR4.out.ge (.int .i64 1))
          clear HR1 HR2 HR3 HR4 HB m12 m13 m14 m21 m23 m24 m31 m32 m34 m41 m42 m43
          have hd1 : Does 6 0 [1, y1, 1] [1, 0, 1] := by
            have e1 : riseV 1 1 = [1, 0, 1] := by simp [riseV, bitI]
            rw [← e1]; exact does_rise bit1 bit1
          have hd2 : Does 7 0 [1, y2, 1] [1, 0, 1] := by
            have e1 : fallV 1 1 = [1, 0, 1] := by simp [fallV, bitI]
            rw [← e1]; exact does_fall bit1 bit1
          have hd3 := does_ctu (a := 1) (b := 0) (c := 10) (d := y3) (e := u) (f := 1) (now := 0) bit1 bit0 bit1 UI.out
          have hu3 : UpAt F (C : Int) (cvV 1 0 u 1 1 0) := up_stay HU.out (by decide)
          have hd4 := does_ctd (a := 1) (b := 0) (c := 10) (d := y4) (e := d) (f := 1) (now := 0) bit1 bit0 bit1 DI.out
          have hu4 : DownAt F (C : Int) (cvV 1 0 d 1 (-1) 10) := down_stay HD.out (by decide)
          unfold ctuV at hd3
          unfold ctdV at hd4
          generalize cvV 1 0 u 1 1 0 = u' at hd3 hu3
          generalize cvV 1 0 d 1 (-1) 10 = d' at hd4 hu4
          have b3 := bitI_bit (decide (10 ≤ u'))
          have b4 := bitI_bit (decide (d' ≤ 0))
          generalize bitI (decide (10 ≤ u')) = y3' at hd3 b3
          generalize bitI (decide (d' ≤ 0)) = y4' at hd4 b4
          have D1 := Lib.hid @hd1
          have D2 := Lib.hid @hd2
          have D3 := Lib.hid @hd3
          have D4 := Lib.hid @hd4
          have B3 := Lib.hid b3
          have Y4 := Lib.hid b4
          have HU3 := Lib.hid hu3
          have HD4 := Lib.hid hu4
          clear hd1 hd2 hd3 hd4 hu3 hu4 b3 b4
          refine (step_row D1.out (by simp) (by simp) (by decide) (by decide) (wrong_three (by omega) bit1 HQ1.out bit1) P1.out).mono ?_
          rintro x w6 ⟨k1, e1, rfl, hr, hb⟩
          have R1 := Lib.hid (hr.lower B4.out.size)
          have P2_ := Lib.hid (P2.out.below hb)
          have P3_ := Lib.hid (P3.out.below hb)
          have P4_ := Lib.hid (P4.out.below hb)
          have B5 := Lib.hid (B4.out.trans (hb.mono B4.out.size))
          clear hr hb P1 B4 P2 P3 P4
          have P2 := P2_
          clear P2_
          have P3 := P3_
          clear P3_
          have P4 := P4_
          clear P4_
          go_wp2_with fail
          refine (step_row D2.out (by simp) (by simp) (by decide) (by decide) (wrong_three (by omega) bit1 HQ2.out bit1) P2.out).mono ?_
          rintro x w7 ⟨k2, e2, rfl, hr, hb⟩
          have R2 := Lib.hid (hr.lower B5.out.size)
          have N12 := Lib.hid (Nat.lt_of_lt_of_le R1.out.lt hr.ge)
          have Q12 := Lib.hid (R1.out.below hb)
          have P3_ := Lib.hid (P3.out.below hb)
          have P4_ := Lib.hid (P4.out.below hb)
          have B6 := Lib.hid (B5.out.trans (hb.mono B5.out.size))
          clear hr hb P2 B5 R1 P3 P4
          have R1 := Q12
          clear Q12
          have P3 := P3_
          clear P3_
          have P4 := P4_
          clear P4_
          go_wp2_with fail
          refine (step_row D3.out (by simp) (by simp) (by decide) (by decide) (wrong_cnt (by omega) bit1 bit0 (by omega) HQ3.out UI.out bit1) P3.out).mono ?_
          rintro x w8 ⟨k3, e3, rfl, hr, hb⟩
          have R3 := Lib.hid (hr.lower B6.out.size)
          have N23 := Lib.hid (Nat.lt_of_lt_of_le R2.out.lt hr.ge)
          have Q13 := Lib.hid (R1.out.below hb)
          have Q23 := Lib.hid (R2.out.below hb)
          have P4_ := Lib.hid (P4.out.below hb)
          have B7 := Lib.hid (B6.out.trans (hb.mono B6.out.size))
          clear hr hb P3 B6 R1 R2 P4
          have R1 := Q13
          clear Q13
          have R2 := Q23
          clear Q23
          have P4 := P4_
          clear P4_
          go_wp2_with fail
          refine (step_row D4.out (by simp) (by simp) (by decide) (by decide) (wrong_cnt (by omega) bit1 bit0 (by omega) HQ4.out DI.out bit1) P4.out).mono ?_
          rintro x w9 ⟨k4, e4, rfl, hr, hb⟩
          have R4 := Lib.hid (hr.lower B7.out.size)
          have N34 := Lib.hid (Nat.lt_of_lt_of_le R3.out.lt hr.ge)
          have Q14 := Lib.hid (R1.out.below hb)
          have Q24 := Lib.hid (R2.out.below hb)
          have Q34 := Lib.hid (R3.out.below hb)
          have B8 := Lib.hid (B7.out.trans (hb.mono B7.out.size))
          clear hr hb P4 B7 R1 R2 R3
          have R1 := Q14
          clear Q14
          have R2 := Q24
          clear Q24
          have R3 := Q34
          clear Q34
          by_cases hA : F + (C : Int) < 32767 <;> by_cases hE : -32768 < F - (C : Int)
          · obtain rfl : u' = F + (C : Int) := by have h := HU3.out; unfold UpAt at h; omega
            obtain rfl : d' = F - (C : Int) := by have h := HD4.out; unfold DownAt at h; omega
            have t1 := (R1.out.cell 1 (by simp)).1
            have t2 := (R2.out.cell 1 (by simp)).1
            have t3 := (R3.out.cell 4 (by simp)).1
            have t4 := (R4.out.cell 4 (by simp)).1
            go_wp2
            go_roundw
            case rel => exact ⟨k + 1, C, by omega, by omega, by go_num, by first | rfl | go_num, k1, e1, k2, e2, k3, e3, k4, e4, _, _, _, _, _, _, _, _, _, _, _, rfl, rfl, rfl, rfl, rfl, R1.out, R2.out, R3.out, R4.out, N12.out, N23.out, N34.out, bit0, bit0, B3.out, Y4.out, bit1, HU3.out, HD4.out, B8.out⟩
            case measure => simp [intOf]; omega
          · obtain rfl : u' = F + (C : Int) := by have h := HU3.out; unfold UpAt at h; omega
            obtain rfl : d' = -32768 := by have h := HD4.out; unfold DownAt at h; omega
            have t1 := (R1.out.cell 1 (by simp)).1
            have t2 := (R2.out.cell 1 (by simp)).1
            have t3 := (R3.out.cell 4 (by simp)).1
            have t4 := (R4.out.cell 4 (by simp)).1
            go_wp2
            go_roundw
            case rel => exact ⟨k + 1, C, by omega, by omega, by go_num, by first | rfl | go_num, k1, e1, k2, e2, k3, e3, k4, e4, _, _, _, _, _, _, _, _, _, _, _, rfl, rfl, rfl, rfl, rfl, R1.out, R2.out, R3.out, R4.out, N12.out, N23.out, N34.out, bit0, bit0, B3.out, Y4.out, bit1, HU3.out, HD4.out, B8.out⟩
            case measure => simp [intOf]; omega
          · obtain rfl : u' = 32767 := by have h := HU3.out; unfold UpAt at h; omega
            obtain rfl : d' = F - (C : Int) := by have h := HD4.out; unfold DownAt at h; omega
            have t1 := (R1.out.cell 1 (by simp)).1
            have t2 := (R2.out.cell 1 (by simp)).1
            have t3 := (R3.out.cell 4 (by simp)).1
            have t4 := (R4.out.cell 4 (by simp)).1
            go_wp2
            go_roundw
            case rel => exact ⟨k + 1, C, by omega, by omega, by go_num, by first | rfl | go_num, k1, e1, k2, e2, k3, e3, k4, e4, _, _, _, _, _, _, _, _, _, _, _, rfl, rfl, rfl, rfl, rfl, R1.out, R2.out, R3.out, R4.out, N12.out, N23.out, N34.out, bit0, bit0, B3.out, Y4.out, bit1, HU3.out, HD4.out, B8.out⟩
            case measure => simp [intOf]; omega
          · obtain rfl : u' = 32767 := by have h := HU3.out; unfold UpAt at h; omega
            obtain rfl : d' = -32768 := by have h := HD4.out; unfold DownAt at h; omega
            have t1 := (R1.out.cell 1 (by simp)).1
            have t2 := (R2.out.cell 1 (by simp)).1
            have t3 := (R3.out.cell 4 (by simp)).1
            have t4 := (R4.out.cell 4 (by simp)).1
            go_wp2
            go_roundw
            case rel => exact ⟨k + 1, C, by omega, by omega, by go_num, by first | rfl | go_num, k1, e1, k2, e2, k3, e3, k4, e4, _, _, _, _, _, _, _, _, _, _, _, rfl, rfl, rfl, rfl, rfl, R1.out, R2.out, R3.out, R4.out, N12.out, N23.out, N34.out, bit0, bit0, B3.out, Y4.out, bit1, HU3.out, HD4.out, B8.out⟩
            case measure => simp [intOf]; omega
      · go_wp2
        go_ret
        exact ⟨rfl, HB.out⟩
    · go_wp2
      go_ret
      exact ⟨rfl, HB.out⟩
end Go.Proofs.YtefflkmegodafaaDoor.PBlockKeeps
