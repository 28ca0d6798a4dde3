/-
  The walk of the law BlockTimes.
-/
import Derived.Test.YtefflkmegodafaaDoorBlockKeepsBlO
namespace Go.Proofs.YtefflkmegodafaaDoor.PBlockKeeps
open Go.RowKit Go.Proofs.YtefflkmegodafaaDoorW.PrintWords Go.Proofs.YtefflkmegodafaaDoorW.PrintLast Go.Proofs.YtefflkmegodafaaDoorW.PrintMore
attribute [local go_sem] Oper.semAt_some

theorem um (x m : Int) (h0 : 0 < m) (h1 : m ≤ 1000000) : 0 ≤ wrap64 ((IntKind.u64.wrap x).tmod m) ∧ wrap64 ((IntKind.u64.wrap x).tmod m) < m := by
  have e : IntKind.u64.wrap x = x % 18446744073709551616 := by simp [IntKind.wrap, IntKind.signed, IntKind.bits]
  have h2 : 0 ≤ x % 18446744073709551616 := by omega
  rw [e, Int.tmod_eq_emod_of_nonneg h2]
  have h3 := Int.emod_nonneg (x % 18446744073709551616) (show m ≠ 0 by omega)
  have h4 := Int.emod_lt_of_pos (x % 18446744073709551616) h0
  generalize x % 18446744073709551616 % m = y at h3 h4
  unfold wrap64
  omega
def OnAt (k : Nat) (P F T q e s f : Int) : Prop := (k = 0 ∧ q = 0 ∧ e = 0 ∧ s = 0 ∧ f = 0) ∨ (0 < k ∧ s = F ∧ f = 1 ∧ ((P ≤ T ∧ q = 1 ∧ e = P) ∨ (T < P ∧ q = 0 ∧ e = T)))
def OffAt (k : Nat) (P F T q e s f : Int) : Prop := (k = 0 ∧ q = 1 ∧ e = 0 ∧ s = 0 ∧ f = 0) ∨ (0 < k ∧ s = F ∧ ((P ≤ T ∧ q = 0 ∧ e = P ∧ f = 0) ∨ (T < P ∧ q = 1 ∧ e = T ∧ f = 1)))
def PulAt (k : Nat) (P F T q e s f : Int) : Prop := (k = 0 ∧ q = 0 ∧ e = 0 ∧ s = 0 ∧ f = 0) ∨ (0 < k ∧ P = 0 ∧ q = 0 ∧ e = 0 ∧ f = 0 ∧ 0 ≤ s ∧ s ≤ F + T) ∨ (0 < k ∧ 0 < P ∧ s = F ∧ ((P ≤ T ∧ q = 0 ∧ e = P ∧ f = 0) ∨ (T < P ∧ q = 1 ∧ e = T ∧ f = 1)))
/-- the cells are such as may be -/
def In (q e s f : Int) : Prop := Bit q ∧ (0 ≤ e ∧ e ≤ 2147483647) ∧ (0 ≤ s ∧ s ≤ 2147483647) ∧ Bit f
/-- the times are small -/
def Small (P F T : Int) : Prop := 0 ≤ P ∧ P ≤ 100000 ∧ 0 ≤ F ∧ F ≤ 100000 ∧ 0 ≤ T ∧ T ≤ 1000000
theorem onAt_in {k : Nat} {P F T q e s f : Int} (hs : Small P F T) (h : OnAt k P F T q e s f) : In q e s f := by
  unfold OnAt at h; unfold In Bit; unfold Small at hs; omega
theorem offAt_in {k : Nat} {P F T q e s f : Int} (hs : Small P F T) (h : OffAt k P F T q e s f) : In q e s f := by
  unfold OffAt at h; unfold In Bit; unfold Small at hs; omega
theorem pulAt_in {k : Nat} {P F T q e s f : Int} (hs : Small P F T) (h : PulAt k P F T q e s f) : In q e s f := by
  unfold PulAt at h; unfold In Bit; unfold Small at hs; omega
theorem gone_eq {n s : Int} (h0 : 0 ≤ n - s) (h1 : n - s ≤ 2147483647) : goneV n s = n - s := by unfold goneV wrap32; omega
theorem on_next {k : Nat} {P F T T' q e s f : Int} (hs : Small P F T') (h : OnAt k P F T q e s f) (h0 : k = 0 → T' = 0) :
    ∃ q' e' s' f', tonV (F + T') 1 P s f = [1, P, q', e', s', f'] ∧ OnAt (k + 1) P F T' q' e' s' f' := by
  unfold Small at hs
  have key : ∃ q' e' s' f', tonV (F + T') 1 P s f = [1, P, q', e', s', f'] ∧ s' = F ∧ f' = 1 ∧ q' = bitI (decide (P ≤ T')) ∧ e' = min T' P := by
    rcases h with ⟨rfl, rfl, rfl, rfl, rfl⟩ | ⟨hk, rfl, rfl, _⟩
    · have e0 := h0 rfl
      subst e0
      have e1 : goneV F F = 0 := by rw [gone_eq] <;> omega
      exact ⟨_, _, _, _, rfl, by simp, rfl, by simp [e1], by simp [e1]⟩
    · have e1 : goneV (s + T') s = T' := by rw [gone_eq] <;> omega
      exact ⟨_, _, _, _, rfl, rfl, rfl, by simp [e1], by simp [e1]⟩
  obtain ⟨q', e', s', f', e1, hs', hf', hq', he'⟩ := key
  refine ⟨q', e', s', f', e1, .inr ⟨by omega, hs', hf', ?_⟩⟩
  by_cases hc : P ≤ T'
  · exact .inl ⟨hc, by simp [hq', hc, bitI], by omega⟩
  · exact .inr ⟨by omega, by simp [hq', hc, bitI], by omega⟩
theorem run_cases {P T : Int} : (P ≤ T ∧ decide (P ≤ T) = true ∧ min T P = P) ∨ (T < P ∧ decide (P ≤ T) = false ∧ min T P = T) := by
  by_cases hc : P ≤ T
  · exact .inl ⟨hc, by simp [hc], by omega⟩
  · exact .inr ⟨by omega, by simp [hc], by omega⟩
theorem off_next {k : Nat} {P F T T' q e s f : Int} (hs : Small P F T') (h : OffAt k P F T q e s f) (h0 : k = 0 → T' = 0) (h1 : T ≤ T') :
    ∃ q' e' s' f', tofV (F + T') 0 P q e s f = [0, P, q', e', s', f'] ∧ OffAt (k + 1) P F T' q' e' s' f' := by
  unfold Small at hs
  have run : ∀ S : Int, S = F → ∃ q' e' s' f', ([0, P, bitI (!decide (P ≤ goneV (F + T') S)), min (goneV (F + T') S) P, S, bitI (!decide (P ≤ goneV (F + T') S))] : List Int) = [0, P, q', e', s', f'] ∧ OffAt (k + 1) P F T' q' e' s' f' := by
    rintro S rfl
    have e1 : goneV (S + T') S = T' := by rw [gone_eq] <;> omega
    rw [e1]
    refine ⟨_, _, _, _, rfl, .inr ⟨by omega, rfl, ?_⟩⟩
    rcases run_cases (P := P) (T := T') with ⟨hc, hd, he⟩ | ⟨hc, hd, he⟩
    · exact .inl ⟨hc, by simp [hd, bitI], he, by simp [hd, bitI]⟩
    · exact .inr ⟨hc, by simp [hd, bitI], he, by simp [hd, bitI]⟩
  rcases h with ⟨rfl, rfl, rfl, rfl, rfl⟩ | ⟨hk, rfl, ⟨hc, rfl, rfl, rfl⟩ | ⟨hc, rfl, rfl, rfl⟩⟩
  · have e0 := h0 rfl
    subst e0
    have e2 : tofV (F + 0) 0 P 1 0 0 0 = [0, P, bitI (!decide (P ≤ goneV (F + 0) F)), min (goneV (F + 0) F) P, F, bitI (!decide (P ≤ goneV (F + 0) F))] := by simp [tofV]
    rw [e2]
    exact run F rfl
  · exact ⟨0, e, s, 0, by simp [tofV], .inr ⟨by omega, rfl, .inl ⟨by omega, rfl, rfl, rfl⟩⟩⟩
  · have e2 : tofV (s + T') 0 P 1 e s 1 = [0, P, bitI (!decide (P ≤ goneV (s + T') s)), min (goneV (s + T') s) P, s, bitI (!decide (P ≤ goneV (s + T') s))] := by simp [tofV]
    rw [e2]
    exact run s rfl
theorem pul_next {k : Nat} {P F T T' q e s f : Int} (hs : Small P F T') (h : PulAt k P F T q e s f) (h0 : k = 0 → T' = 0) (h1 : T ≤ T') :
    ∃ q' e' s' f', tpV (F + T') 1 P q e s f = [1, P, q', e', s', f'] ∧ PulAt (k + 1) P F T' q' e' s' f' := by
  unfold Small at hs
  have run : ∀ S : Int, S = F → 0 < P → ∃ q' e' s' f', ([1, P, bitI (!decide (P ≤ goneV (F + T') S)), min (goneV (F + T') S) P, S, bitI (!decide (P ≤ goneV (F + T') S))] : List Int) = [1, P, q', e', s', f'] ∧ PulAt (k + 1) P F T' q' e' s' f' := by
    rintro S rfl hP
    have e1 : goneV (S + T') S = T' := by rw [gone_eq] <;> omega
    rw [e1]
    refine ⟨_, _, _, _, rfl, .inr (.inr ⟨by omega, hP, rfl, ?_⟩)⟩
    rcases run_cases (P := P) (T := T') with ⟨hc, hd, he⟩ | ⟨hc, hd, he⟩
    · exact .inl ⟨hc, by simp [hd, bitI], he, by simp [hd, bitI]⟩
    · exact .inr ⟨hc, by simp [hd, bitI], he, by simp [hd, bitI]⟩
  have nought : P = 0 → e = 0 → f = 0 → ∃ q' e' s' f', tpV (F + T') 1 P q e s f = [1, P, q', e', s', f'] ∧ PulAt (k + 1) P F T' q' e' s' f' := by
    rintro rfl rfl rfl
    have e1 : goneV (F + T') (F + T') = 0 := by rw [gone_eq] <;> omega
    have e2 : tpV (F + T') 1 0 q 0 s 0 = [1, 0, 0, 0, F + T', 0] := by simp [tpV, tpRun, e1, bitI]
    exact ⟨_, _, _, _, e2, .inr (.inl ⟨by omega, rfl, rfl, rfl, rfl, by omega, by omega⟩)⟩
  by_cases hP : P = 0
  · refine nought hP ?_ ?_ <;> (unfold PulAt at h; omega)
  rcases h with ⟨rfl, rfl, rfl, rfl, rfl⟩ | ⟨_, hP', _⟩ | ⟨hk, hP', rfl, ⟨hc, rfl, rfl, rfl⟩ | ⟨hc, rfl, rfl, rfl⟩⟩
  · have e0 := h0 rfl
    subst e0
    have e2 : tpV (F + 0) 1 P 0 0 0 0 = [1, P, bitI (!decide (P ≤ goneV (F + 0) F)), min (goneV (F + 0) F) P, F, bitI (!decide (P ≤ goneV (F + 0) F))] := by simp [tpV, tpRun]
    rw [e2]
    exact run F rfl (by omega)
  · exact absurd hP' hP
  · have e2 : tpV (s + T') 1 e 0 e s 0 = [1, e, 0, e, s, 0] := by simp [tpV, hP]
    exact ⟨0, e, s, 0, e2, .inr (.inr ⟨by omega, hP', rfl, .inl ⟨by omega, rfl, rfl, rfl⟩⟩)⟩
  · have e2 : tpV (s + T') 1 P 1 e s 1 = [1, P, bitI (!decide (P ≤ goneV (s + T') s)), min (goneV (s + T') s) P, s, bitI (!decide (P ≤ goneV (s + T') s))] := by
      by_cases he : e = 0 <;> simp [tpV, tpRun, he]
    rw [e2]
    exact run s rfl hP'
/-- what holds at the head of round k of BlockTimes, at the time F + T -/
def TimesAt (B : Nat) (w : World) (k : Nat) (P F T : Int) (v1 v2 v3 : Value) (W : World) : Prop :=
  ∃ g1 c1 g2 c2 g3 c3 : Nat, ∃ q1 e1 s1 f1 q2 e2 s2 f2 q3 e3 s3 f3 : Int, v1 = .slice (some ⟨g1, 0, none⟩) 6 c1 ∧ v2 = .slice (some ⟨g2, 0, none⟩) 6 c2 ∧ v3 = .slice (some ⟨g3, 0, none⟩) 6 c3 ∧
    Row B W g1 c1 [1, P, q1, e1, s1, f1] ∧ Row B W g2 c2 [0, P, q2, e2, s2, f2] ∧ Row B W g3 c3 [1, P, q3, e3, s3, f3] ∧ OnAt k P F T q1 e1 s1 f1 ∧ OffAt k P F T q2 e2 s2 f2 ∧ PulAt k P F T q3 e3 s3 f3 ∧ Below B w W
theorem wrong_tim {k a P q e s f : Int} (h : k = 1 ∨ k = 2 ∨ k = 3) (ha : Bit a) (hP : 0 ≤ P ∧ P ≤ 2147483647) (h2 : In q e s f) : block_wrong.f 8 k [a, P, q, e, s, f] = some 0 := wrong_time h ha hP h2.1 h2.2.1 h2.2.2.1 h2.2.2.2
theorem in32 {q e s f : Int} (h : In q e s f) : I32 s := by obtain ⟨_, _, h, _⟩ := h; unfold I32; omega

set_option maxRecDepth 100000 in
set_option maxHeartbeats 8000000 in
theorem times_any (pt first : Int) (A1 : Option Addr) (n1 cp1 : Nat) (xs : List Int) (w : World) (hx : ReadsInt w .i64 A1 n1 xs) :
    Calls Tryd.prog 4 #[.int .i64 pt, .int .i64 first, .slice A1 n1 cp1] w fun e w' => e = .returned (.bool true) ∧ Below w.heap.size w w' := by
  have HX := Lib.hid hx
  clear hx
  go_enter Tryd.func4, Tryd.ntmps4
  go_wp2_with fail
  refine (works_any _).mono ?_
  rintro e w1 ⟨rfl, hb⟩
  have HB := Lib.hid hb
  clear hb
  obtain ⟨hP0, hP1⟩ := um pt 100000 (by omega) (by omega)
  obtain ⟨hF0, hF1⟩ := um first 100000 (by omega) (by omega)
  go_wp2_with fail
  generalize wrap64 ((IntKind.u64.wrap pt).tmod 100000) = P at hP0 hP1 ⊢
  generalize wrap64 ((IntKind.u64.wrap first).tmod 100000) = F at hF0 hF1 ⊢
  have h1 : Row w.heap.size (w1.alloc (.cells #[.int .i64 1, .int .i64 P, .int .i64 0, .int .i64 0, .int .i64 0, .int .i64 0] 2)) w1.heap.size 6 [1, P, 0, 0, 0, 0] := Row.lit w1 [1, P, 0, 0, 0, 0] HB.out.size (by simp)
  have b1 := HB.out.alloc HB.out.size (.cells #[.int .i64 1, .int .i64 P, .int .i64 0, .int .i64 0, .int .i64 0, .int .i64 0] 2)
  have z1 : (w1.alloc (.cells #[.int .i64 1, .int .i64 P, .int .i64 0, .int .i64 0, .int .i64 0, .int .i64 0] 2)).heap.size = w1.heap.size + 1 := by simp
  generalize w1.alloc (.cells #[.int .i64 1, .int .i64 P, .int .i64 0, .int .i64 0, .int .i64 0, .int .i64 0] 2) = w2 at h1 b1 z1 ⊢
  rw [← z1]
  have h2 : Row w.heap.size (w2.alloc (.cells #[.int .i64 0, .int .i64 P, .int .i64 1, .int .i64 0, .int .i64 0, .int .i64 0] 2)) w2.heap.size 6 [0, P, 1, 0, 0, 0] := Row.lit w2 [0, P, 1, 0, 0, 0] b1.size (by simp)
  have b2 := b1.alloc b1.size (.cells #[.int .i64 0, .int .i64 P, .int .i64 1, .int .i64 0, .int .i64 0, .int .i64 0] 2)
  have z2 : (w2.alloc (.cells #[.int .i64 0, .int .i64 P, .int .i64 1, .int .i64 0, .int .i64 0, .int .i64 0] 2)).heap.size = w2.heap.size + 1 := by simp
  have h1 := h1.alloc (.cells #[.int .i64 0, .int .i64 P, .int .i64 1, .int .i64 0, .int .i64 0, .int .i64 0] 2)
  generalize w2.alloc (.cells #[.int .i64 0, .int .i64 P, .int .i64 1, .int .i64 0, .int .i64 0, .int .i64 0] 2) = w3 at h1 h2 b2 z2 ⊢
  rw [← z2]
  clear b1
  have h3 : Row w.heap.size (w3.alloc (.cells #[.int .i64 1, .int .i64 P, .int .i64 0, .int .i64 0, .int .i64 0, .int .i64 0] 2)) w3.heap.size 6 [1, P, 0, 0, 0, 0] := Row.lit w3 [1, P, 0, 0, 0, 0] b2.size (by simp)
  have b3 := b2.alloc b2.size (.cells #[.int .i64 1, .int .i64 P, .int .i64 0, .int .i64 0, .int .i64 0, .int .i64 0] 2)
  have z3 : (w3.alloc (.cells #[.int .i64 1, .int .i64 P, .int .i64 0, .int .i64 0, .int .i64 0, .int .i64 0] 2)).heap.size = w3.heap.size + 1 := by simp
  have h1 := h1.alloc (.cells #[.int .i64 1, .int .i64 P, .int .i64 0, .int .i64 0, .int .i64 0, .int .i64 0] 2)
  have h2 := h2.alloc (.cells #[.int .i64 1, .int .i64 P, .int .i64 0, .int .i64 0, .int .i64 0, .int .i64 0] 2)
  generalize w3.alloc (.cells #[.int .i64 1, .int .i64 P, .int .i64 0, .int .i64 0, .int .i64 0, .int .i64 0] 2) = w4 at h1 h2 h3 b3 z3 ⊢
  clear b2
  have HS : Hid (TimesAt w.heap.size w 0 P F 0 (.slice (some ⟨w1.heap.size, 0, none⟩) 6 6) (.slice (some ⟨w2.heap.size, 0, none⟩) 6 6) (.slice (some ⟨w3.heap.size, 0, none⟩) 6 6) w4) :=
    Lib.hid ⟨_, _, _, _, _, _, _, _, _, _, _, _, _, _, _, _, _, _, rfl, rfl, rfl, h1, h2, h3, .inl ⟨rfl, rfl, rfl, rfl, rfl⟩, .inl ⟨rfl, rfl, rfl, rfl, rfl⟩, .inl ⟨rfl, rfl, rfl, rfl, rfl⟩, b3⟩
  clear h1 h2 h3 b3 z1 z2 z3 HB
  go_loopw [7, 8, 9, 10, 11] (fun v1 v2 v3 nv i wr => ∃ (k : Nat) (x n T : Int), k ≤ 61 ∧ Hid (x = (k : Int) - 1) ∧ i = .int .i64 x ∧ nv = .int .i64 n ∧ Hid (n = F + T) ∧ 0 ≤ T ∧ T ≤ 10000 * (k : Int) ∧ (k = 0 → T = 0) ∧ TimesAt w.heap.size w k P F T v1 v2 v3 wr) (fun _ _ _ _ i _ => (100 - intOf i).toNat)
  case atStart => exact ⟨0, -1, F, 0, by omega, Lib.hid (by omega), rfl, rfl, Lib.hid (by omega), by omega, by omega, fun _ => rfl, HS.out⟩
  case round =>
    clear HS
    obtain ⟨k, x, n, T, hk, hx, rfl, rfl, hn, hT0, hT1, hz, g1, c1, g2, c2, g3, c3, q1, e1, s1, f1, q2, e2, s2, f2, q3, e3, s3, f3, rfl, rfl, rfl, hr1, hr2, hr3, ho1, ho2, ho3, hB⟩ := hrel
    rename World => wr
    have SM : Small P F T := by unfold Small; omega
    have I1 := onAt_in SM ho1
    have I2 := offAt_in SM ho2
    have I3 := pulAt_in SM ho3
    have HR1 := Lib.hid hr1
    have HR2 := Lib.hid hr2
    have HR3 := Lib.hid hr3
    have HO1 := Lib.hid ho1
    have HO2 := Lib.hid ho2
    have HO3 := Lib.hid ho3
    have J1 := Lib.hid I1
    have J2 := Lib.hid I2
    have J3 := Lib.hid I3
    have HB := Lib.hid hB
    have HZ := Lib.hid hz
    clear hr1 hr2 hr3 ho1 ho2 ho3 I1 I2 I3 SM hB hz
    rcases k with _ | j
    · obtain rfl : x = -1 := by have := hx.out; omega
      have hlt : (-1 : Int) < (n1 : Int) := by omega
      clear hx
      go_wp2_with fail
      obtain ⟨N, hN⟩ : ∃ N, N = n := ⟨_, rfl⟩
      subst hN
      have HN := hn
      obtain ⟨T', hT'⟩ : ∃ T', T' = T := ⟨_, rfl⟩
      subst hT'
      have HZ' : Hid ((0 : Nat) = 0 → T' = 0) := Lib.hid (fun _ => HZ.out trivial)
      have HT : Hid (T' ≤ T') := Lib.hid (by omega)
      clear hn HZ
      have hs : Small P F T' := by unfold Small; omega
      have N0 : F ≤ N := by have := HN.out; omega
      have N1 : N ≤ 2000000 := by have := HN.out; unfold Small at hs; omega
      obtain ⟨q1', e1', s1', f1', x1, y1⟩ := on_next hs HO1.out HZ'.out
      obtain ⟨q2', e2', s2', f2', x2, y2⟩ := off_next hs HO2.out HZ'.out HT.out
      obtain ⟨q3', e3', s3', f3', x3, y3⟩ := pul_next hs HO3.out HZ'.out HT.out
      rw [← HN.out] at x1 x2 x3
      have i32 : I32 N := by unfold I32; omega
      have D1 : Hid (Does 1 N [1, P, q1, e1, s1, f1] [1, P, q1', e1', s1', f1']) := Lib.hid (by rw [← x1]; exact does_ton bit1 J1.out.2.2.2 i32 (in32 J1.out))
      have D2 : Hid (Does 2 N [0, P, q2, e2, s2, f2] [0, P, q2', e2', s2', f2']) := Lib.hid (by rw [← x2]; exact does_tof bit0 J2.out.1 J2.out.2.2.2 i32 (in32 J2.out))
      have D3 : Hid (Does 3 N [1, P, q3, e3, s3, f3] [1, P, q3', e3', s3', f3']) := Lib.hid (by rw [← x3]; exact does_tp bit1 J3.out.2.2.2 i32 (in32 J3.out))
      have Y1 := Lib.hid y1
      have Y2 := Lib.hid y2
      have Y3 := Lib.hid y3
      clear x1 x2 x3 y1 y2 y3 i32 hs HO1 HO2 HO3
      refine (step_row D1.out (by simp) (by simp) (by omega) (by omega) (wrong_tim (by omega) bit1 (by omega) J1.out) HR1.out).mono ?_
      rintro x w5 ⟨k1, d1, rfl, hr, hb⟩
      have R1 := Lib.hid (hr.lower HB.out.size)
      have P2_ := Lib.hid (HR2.out.below hb)
      have P3_ := Lib.hid (HR3.out.below hb)
      have HB_ := Lib.hid (HB.out.trans (hb.mono HB.out.size))
      clear hr hb HR1 HB HR2 HR3
      have HB := HB_
      clear HB_
      have HR2 := P2_
      clear P2_
      have HR3 := P3_
      clear P3_
      go_wp2_with fail
      refine (step_row D2.out (by simp) (by simp) (by omega) (by omega) (wrong_tim (by omega) bit0 (by omega) J2.out) HR2.out).mono ?_
      rintro x w6 ⟨k2, d2, rfl, hr, hb⟩
      have R2 := Lib.hid (hr.lower HB.out.size)
      have Q12 := Lib.hid (R1.out.below hb)
      have P3_ := Lib.hid (HR3.out.below hb)
      have HB_ := Lib.hid (HB.out.trans (hb.mono HB.out.size))
      clear hr hb HR2 HB R1 HR3
      have HB := HB_
      clear HB_
      have R1 := Q12
      clear Q12
      have HR3 := P3_
      clear P3_
      go_wp2_with fail
      refine (step_row D3.out (by simp) (by simp) (by omega) (by omega) (wrong_tim (by omega) bit1 (by omega) J3.out) HR3.out).mono ?_
      rintro x w7 ⟨k3, d3, rfl, hr, hb⟩
      have R3 := Lib.hid (hr.lower HB.out.size)
      have Q13 := Lib.hid (R1.out.below hb)
      have Q23 := Lib.hid (R2.out.below hb)
      have HB_ := Lib.hid (HB.out.trans (hb.mono HB.out.size))
      clear hr hb HR3 HB R1 R2
      have HB := HB_
      clear HB_
      have R1 := Q13
      clear Q13
      have R2 := Q23
      clear Q23
      by_cases hc1 : 0 < P
      · by_cases hc2 : P ≤ N - F
        · by_cases hc3 : P < N - F
          · obtain rfl : q1' = 1 := by have h := Y1.out; unfold OnAt at h; have := HN.out; omega
            obtain rfl : q2' = 0 := by have h := Y2.out; unfold OffAt at h; have := HN.out; omega
            obtain rfl : q3' = 0 := by have h := Y3.out; unfold PulAt at h; have := HN.out; omega
            have t1 := (R1.out.cell 2 (by simp)).1
            have t2 := (R2.out.cell 2 (by simp)).1
            have t3 := (R3.out.cell 2 (by simp)).1
            obtain rfl : e1' = P := by have h := Y1.out; unfold OnAt at h; have := HN.out; omega
            have t4 := (R1.out.cell 3 (by simp)).1
            go_wp2
            go_roundw
            case rel => exact ⟨0 + 1, 0, N, T', by omega, Lib.hid (by omega), rfl, rfl, HN, by omega, by omega, fun h => absurd h (by omega), k1, d1, k2, d2, k3, d3, _, _, _, _, _, _, _, _, _, _, _, _, rfl, rfl, rfl, R1.out, R2.out, R3.out, Y1.out, Y2.out, Y3.out, HB.out⟩
            case measure => first | (simp [intOf]; done) | (simp [intOf]; omega)
          · obtain rfl : q1' = 1 := by have h := Y1.out; unfold OnAt at h; have := HN.out; omega
            obtain rfl : q2' = 0 := by have h := Y2.out; unfold OffAt at h; have := HN.out; omega
            obtain rfl : q3' = 0 := by have h := Y3.out; unfold PulAt at h; have := HN.out; omega
            have t1 := (R1.out.cell 2 (by simp)).1
            have t2 := (R2.out.cell 2 (by simp)).1
            have t3 := (R3.out.cell 2 (by simp)).1
            obtain rfl : e1' = N - F := by have h := Y1.out; unfold OnAt at h; have := HN.out; omega
            have t4 := (R1.out.cell 3 (by simp)).1
            go_wp2
            go_roundw
            case rel => exact ⟨0 + 1, 0, N, T', by omega, Lib.hid (by omega), rfl, rfl, HN, by omega, by omega, fun h => absurd h (by omega), k1, d1, k2, d2, k3, d3, _, _, _, _, _, _, _, _, _, _, _, _, rfl, rfl, rfl, R1.out, R2.out, R3.out, Y1.out, Y2.out, Y3.out, HB.out⟩
            case measure => first | (simp [intOf]; done) | (simp [intOf]; omega)
        · have hc3 : ¬ P < N - F := by omega
          skip
          · obtain rfl : q1' = 0 := by have h := Y1.out; unfold OnAt at h; have := HN.out; omega
            obtain rfl : q2' = 1 := by have h := Y2.out; unfold OffAt at h; have := HN.out; omega
            obtain rfl : q3' = 1 := by have h := Y3.out; unfold PulAt at h; have := HN.out; omega
            have t1 := (R1.out.cell 2 (by simp)).1
            have t2 := (R2.out.cell 2 (by simp)).1
            have t3 := (R3.out.cell 2 (by simp)).1
            obtain rfl : e1' = N - F := by have h := Y1.out; unfold OnAt at h; have := HN.out; omega
            have t4 := (R1.out.cell 3 (by simp)).1
            go_wp2
            go_roundw
            case rel => exact ⟨0 + 1, 0, N, T', by omega, Lib.hid (by omega), rfl, rfl, HN, by omega, by omega, fun h => absurd h (by omega), k1, d1, k2, d2, k3, d3, _, _, _, _, _, _, _, _, _, _, _, _, rfl, rfl, rfl, R1.out, R2.out, R3.out, Y1.out, Y2.out, Y3.out, HB.out⟩
            case measure => first | (simp [intOf]; done) | (simp [intOf]; omega)
      · have hc2 : P ≤ N - F := by omega
        by_cases hc3 : P < N - F
        · have hc4 : decide (0 < P) = false := by simpa using hc1
          obtain rfl : e1' = P := by have h := Y1.out; unfold OnAt at h; have := HN.out; omega
          have t4 := (R1.out.cell 3 (by simp)).1
          go_wp2
          go_roundw
          case rel => exact ⟨0 + 1, 0, N, T', by omega, Lib.hid (by omega), rfl, rfl, HN, by omega, by omega, fun h => absurd h (by omega), k1, d1, k2, d2, k3, d3, _, _, _, _, _, _, _, _, _, _, _, _, rfl, rfl, rfl, R1.out, R2.out, R3.out, Y1.out, Y2.out, Y3.out, HB.out⟩
          case measure => first | (simp [intOf]; done) | (simp [intOf]; omega)
        · have hc4 : decide (0 < P) = false := by simpa using hc1
          obtain rfl : e1' = N - F := by have h := Y1.out; unfold OnAt at h; have := HN.out; omega
          have t4 := (R1.out.cell 3 (by simp)).1
          go_wp2
          go_roundw
          case rel => exact ⟨0 + 1, 0, N, T', by omega, Lib.hid (by omega), rfl, rfl, HN, by omega, by omega, fun h => absurd h (by omega), k1, d1, k2, d2, k3, d3, _, _, _, _, _, _, _, _, _, _, _, _, rfl, rfl, rfl, R1.out, R2.out, R3.out, Y1.out, Y2.out, Y3.out, HB.out⟩
          case measure => first | (simp [intOf]; done) | (simp [intOf]; omega)
    · obtain rfl : x = (j : Int) := by have := hx.out; omega
      clear hx HZ
      by_cases a1 : j < n1
      · by_cases a3 : (j : Int) < 60
        · obtain ⟨ad1, rfl, x1⟩ := HX.out.at_ (j : Int) (by omega) (by omega)
          have t1 := pw_cell_below HB.out x1
          rw [Int.toNat_natCast] at t1
          clear x1
          obtain ⟨st0, st1⟩ := um (rd xs j) 10000 (by omega) (by omega)
          have nb0 : 0 ≤ n := by have := hn.out; omega
          have nb1 : n ≤ 1000000 := by have := hn.out; omega
          go_wp2_with fail
          generalize wrap64 ((IntKind.u64.wrap (rd xs ↑j)).tmod 10000) = st at st0 st1 ⊢
          obtain ⟨N, hN⟩ : ∃ N, N = n + st := ⟨_, rfl⟩
          rw [← hN]
          have HN : Hid (N = F + (T + st)) := Lib.hid (by have := hn.out; omega)
          have hT2 : 0 ≤ T + st := by omega
          have hT3 : T + st ≤ 10000 * ((j + 1 + 1 : Nat) : Int) := by omega
          have HT : Hid (T ≤ T + st) := Lib.hid (by omega)
          have HZ' : Hid (j + 1 = 0 → T + st = 0) := Lib.hid (fun h => absurd h (by omega))
          generalize T + st = T' at HN hT2 hT3 HT HZ'
          clear t1 st0 st1 hN hn nb0 nb1
          have hs : Small P F T' := by unfold Small; omega
          have N0 : F ≤ N := by have := HN.out; omega
          have N1 : N ≤ 2000000 := by have := HN.out; unfold Small at hs; omega
          obtain ⟨q1', e1', s1', f1', x1, y1⟩ := on_next hs HO1.out HZ'.out
          obtain ⟨q2', e2', s2', f2', x2, y2⟩ := off_next hs HO2.out HZ'.out HT.out
          obtain ⟨q3', e3', s3', f3', x3, y3⟩ := pul_next hs HO3.out HZ'.out HT.out
          rw [← HN.out] at x1 x2 x3
          have i32 : I32 N := by unfold I32; omega
          have D1 : Hid (Does 1 N [1, P, q1, e1, s1, f1] [1, P, q1', e1', s1', f1']) := Lib.hid (by rw [← x1]; exact does_ton bit1 J1.out.2.2.2 i32 (in32 J1.out))
          have D2 : Hid (Does 2 N [0, P, q2, e2, s2, f2] [0, P, q2', e2', s2', f2']) := Lib.hid (by rw [← x2]; exact does_tof bit0 J2.out.1 J2.out.2.2.2 i32 (in32 J2.out))
          have D3 : Hid (Does 3 N [1, P, q3, e3, s3, f3] [1, P, q3', e3', s3', f3']) := Lib.hid (by rw [← x3]; exact does_tp bit1 J3.out.2.2.2 i32 (in32 J3.out))
          have Y1 := Lib.hid y1
          have Y2 := Lib.hid y2
          have Y3 := Lib.hid y3
          clear x1 x2 x3 y1 y2 y3 i32 hs HO1 HO2 HO3
          refine (step_row D1.out (by simp) (by simp) (by omega) (by omega) (wrong_tim (by omega) bit1 (by omega) J1.out) HR1.out).mono ?_
          rintro x w5 ⟨k1, d1, rfl, hr, hb⟩
          have R1 := Lib.hid (hr.lower HB.out.size)
          have P2_ := Lib.hid (HR2.out.below hb)
          have P3_ := Lib.hid (HR3.out.below hb)
          have HB_ := Lib.hid (HB.out.trans (hb.mono HB.out.size))
          clear hr hb HR1 HB HR2 HR3
          have HB := HB_
          clear HB_
          have HR2 := P2_
          clear P2_
          have HR3 := P3_
          clear P3_
          go_wp2_with fail
          refine (step_row D2.out (by simp) (by simp) (by omega) (by omega) (wrong_tim (by omega) bit0 (by omega) J2.out) HR2.out).mono ?_
          rintro x w6 ⟨k2, d2, rfl, hr, hb⟩
          have R2 := Lib.hid (hr.lower HB.out.size)
          have Q12 := Lib.hid (R1.out.below hb)
          have P3_ := Lib.hid (HR3.out.below hb)
          have HB_ := Lib.hid (HB.out.trans (hb.mono HB.out.size))
          clear hr hb HR2 HB R1 HR3
          have HB := HB_
          clear HB_
          have R1 := Q12
          clear Q12
          have HR3 := P3_
          clear P3_
          go_wp2_with fail
          refine (step_row D3.out (by simp) (by simp) (by omega) (by omega) (wrong_tim (by omega) bit1 (by omega) J3.out) HR3.out).mono ?_
          rintro x w7 ⟨k3, d3, rfl, hr, hb⟩
          have R3 := Lib.hid (hr.lower HB.out.size)
          have Q13 := Lib.hid (R1.out.below hb)
          have Q23 := Lib.hid (R2.out.below hb)
          have HB_ := Lib.hid (HB.out.trans (hb.mono HB.out.size))
          clear hr hb HR3 HB R1 R2
          have HB := HB_
          clear HB_
          have R1 := Q13
          clear Q13
          have R2 := Q23
          clear Q23
          by_cases hc1 : 0 < P
          · by_cases hc2 : P ≤ N - F
            · by_cases hc3 : P < N - F
              · obtain rfl : q1' = 1 := by have h := Y1.out; unfold OnAt at h; have := HN.out; omega
                obtain rfl : q2' = 0 := by have h := Y2.out; unfold OffAt at h; have := HN.out; omega
                obtain rfl : q3' = 0 := by have h := Y3.out; unfold PulAt at h; have := HN.out; omega
                have t1 := (R1.out.cell 2 (by simp)).1
                have t2 := (R2.out.cell 2 (by simp)).1
                have t3 := (R3.out.cell 2 (by simp)).1
                obtain rfl : e1' = P := by have h := Y1.out; unfold OnAt at h; have := HN.out; omega
                have t4 := (R1.out.cell 3 (by simp)).1
                go_wp2
                go_roundw
                case rel => exact ⟨j + 1 + 1, (j : Int) + 1, N, T', by omega, Lib.hid (by omega), rfl, rfl, HN, by omega, by omega, fun h => absurd h (by omega), k1, d1, k2, d2, k3, d3, _, _, _, _, _, _, _, _, _, _, _, _, rfl, rfl, rfl, R1.out, R2.out, R3.out, Y1.out, Y2.out, Y3.out, HB.out⟩
                case measure => first | (simp [intOf]; done) | (simp [intOf]; omega)
              · obtain rfl : q1' = 1 := by have h := Y1.out; unfold OnAt at h; have := HN.out; omega
                obtain rfl : q2' = 0 := by have h := Y2.out; unfold OffAt at h; have := HN.out; omega
                obtain rfl : q3' = 0 := by have h := Y3.out; unfold PulAt at h; have := HN.out; omega
                have t1 := (R1.out.cell 2 (by simp)).1
                have t2 := (R2.out.cell 2 (by simp)).1
                have t3 := (R3.out.cell 2 (by simp)).1
                obtain rfl : e1' = N - F := by have h := Y1.out; unfold OnAt at h; have := HN.out; omega
                have t4 := (R1.out.cell 3 (by simp)).1
                go_wp2
                go_roundw
                case rel => exact ⟨j + 1 + 1, (j : Int) + 1, N, T', by omega, Lib.hid (by omega), rfl, rfl, HN, by omega, by omega, fun h => absurd h (by omega), k1, d1, k2, d2, k3, d3, _, _, _, _, _, _, _, _, _, _, _, _, rfl, rfl, rfl, R1.out, R2.out, R3.out, Y1.out, Y2.out, Y3.out, HB.out⟩
                case measure => first | (simp [intOf]; done) | (simp [intOf]; omega)
            · have hc3 : ¬ P < N - F := by omega
              skip
              · obtain rfl : q1' = 0 := by have h := Y1.out; unfold OnAt at h; have := HN.out; omega
                obtain rfl : q2' = 1 := by have h := Y2.out; unfold OffAt at h; have := HN.out; omega
                obtain rfl : q3' = 1 := by have h := Y3.out; unfold PulAt at h; have := HN.out; omega
                have t1 := (R1.out.cell 2 (by simp)).1
                have t2 := (R2.out.cell 2 (by simp)).1
                have t3 := (R3.out.cell 2 (by simp)).1
                obtain rfl : e1' = N - F := by have h := Y1.out; unfold OnAt at h; have := HN.out; omega
                have t4 := (R1.out.cell 3 (by simp)).1
                go_wp2
                go_roundw
                case rel => exact ⟨j + 1 + 1, (j : Int) + 1, N, T', by omega, Lib.hid (by omega), rfl, rfl, HN, by omega, by omega, fun h => absurd h (by omega), k1, d1, k2, d2, k3, d3, _, _, _, _, _, _, _, _, _, _, _, _, rfl, rfl, rfl, R1.out, R2.out, R3.out, Y1.out, Y2.out, Y3.out, HB.out⟩
                case measure => first | (simp [intOf]; done) | (simp [intOf]; omega)
          · have hc2 : P ≤ N - F := by omega
            by_cases hc3 : P < N - F
            · have hc4 : decide (0 < P) = false := by simpa using hc1
              obtain rfl : e1' = P := by have h := Y1.out; unfold OnAt at h; have := HN.out; omega
              have t4 := (R1.out.cell 3 (by simp)).1
              go_wp2
              go_roundw
              case rel => exact ⟨j + 1 + 1, (j : Int) + 1, N, T', by omega, Lib.hid (by omega), rfl, rfl, HN, by omega, by omega, fun h => absurd h (by omega), k1, d1, k2, d2, k3, d3, _, _, _, _, _, _, _, _, _, _, _, _, rfl, rfl, rfl, R1.out, R2.out, R3.out, Y1.out, Y2.out, Y3.out, HB.out⟩
              case measure => first | (simp [intOf]; done) | (simp [intOf]; omega)
            · have hc4 : decide (0 < P) = false := by simpa using hc1
              obtain rfl : e1' = N - F := by have h := Y1.out; unfold OnAt at h; have := HN.out; omega
              have t4 := (R1.out.cell 3 (by simp)).1
              go_wp2
              go_roundw
              case rel => exact ⟨j + 1 + 1, (j : Int) + 1, N, T', by omega, Lib.hid (by omega), rfl, rfl, HN, by omega, by omega, fun h => absurd h (by omega), k1, d1, k2, d2, k3, d3, _, _, _, _, _, _, _, _, _, _, _, _, rfl, rfl, rfl, R1.out, R2.out, R3.out, Y1.out, Y2.out, Y3.out, HB.out⟩
              case measure => first | (simp [intOf]; done) | (simp [intOf]; omega)
        · go_wp2
          go_ret
          exact ⟨rfl, HB.out⟩
      · go_wp2
        go_ret
        exact ⟨rfl, HB.out⟩
end Go.Proofs.YtefflkmegodafaaDoor.PBlockKeeps
