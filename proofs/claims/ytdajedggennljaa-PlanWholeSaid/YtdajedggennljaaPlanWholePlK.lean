/-
  The walk of layer 21's law function PlanWhole.
-/
import Derived.Test.YtdajedggennljaaPlanWholePlJ
import Derived.Test.YtdajedggennljaaPlanWholePlE
namespace Go.Proofs.Ytdajedggennljaa.PPlanWhole
open Go.RowKit Go.Shelf Go.Proofs.YtdajedggennljaaW.PrintWords Go.Proofs.YtdajedggennljaaW.PrintLast Go.Proofs.YtdajedggennljaaW.PrintMore
attribute [local go_sem] Oper.semAt_some

theorem share_in {F N : Int} {ws : List S36} (p : Int) : ∀ {e : Int}, Chain F N e ws → 0 ≤ share p ws ∧ share p ws ≤ lens ws ∧ lens ws ≤ F - e := by
  induction ws with
  | nil => intro e hc; simp only [Chain] at hc; simp only [share, lens]; omega
  | cons x r ih =>
    intro e hc
    obtain ⟨_, _, c3, c4, _, c6⟩ := hc
    have := ih c6
    simp only [share, lens]
    split <;> omega
theorem shares_in {F N : Int} {ws : List S36} (hc : Chain F N 0 ws) (n : Nat) : 0 ≤ shares ws n ∧ shares ws n ≤ n * F := by
  induction n with
  | zero => simp [shares]
  | succ n ih =>
    have := share_in ((n : Int) - 1) hc
    have e : ((n + 1 : Nat) : Int) * F = n * F + F := by rw [Int.natCast_add, Int.add_mul]; omega
    simp only [shares]
    omega
theorem share_good {F : Int} {ws : List S36} {N p : Int} (g : Good F ws N) (h0 : -1 ≤ p) (h1 : p < N) : shareV F ws N p = (share p ws, 0) := by
  unfold shareV
  rw [g.is, if_neg (by simp), if_neg (by omega)]

structure Bp (w W : World) (F : Int) (A : Option Addr) (c : Nat) (ws : List S36) : Prop where
  bel : Below w.heap.size w W
  row : Kd.C k36 W A ws.length ws
  cF : W.cell? ⟨w.heap.size, 0, none⟩ = some (.int .i64 F)
  cS : W.cell? ⟨w.heap.size, 1, none⟩ = some (.slice A ws.length c)
  lt : w.heap.size < W.heap.size
theorem Bp.new (w : World) (F : Int) (A : Option Addr) (c : Nat) (ws : List S36) (t : TypeId) (hr : Kd.C k36 w A ws.length ws) : Bp w (w.alloc (.cells #[.int .i64 F, .slice A ws.length c] t)) F A c ws :=
  ⟨bnew _ _, Kd.C_alloc hr _, by simp [go_sem], by simp [go_sem], by simp⟩
theorem Bp.next {w W W' : World} {F : Int} {A : Option Addr} {c : Nat} {ws : List S36} (h : Bp w W F A c ws) (hb : Below W.heap.size W W') : Bp w W' F A c ws :=
  ⟨bnext h.bel hb, Kd.C_below h.row hb, (hb.cell (p := ⟨w.heap.size, 0, none⟩) h.lt).trans h.cF, (hb.cell (p := ⟨w.heap.size, 1, none⟩) h.lt).trans h.cS, Nat.lt_of_lt_of_le h.lt hb.size⟩

set_option maxRecDepth 100000 in
/-- where nothing is said: a plan that may not be, or a frame of more than 3000 ticks -/
theorem whole_out (F : Int) (A : Option Addr) (c : Nat) (ws : List S36) (N fr : Int) (w : World) (hr : Kd.C k36 w A ws.length ws) (hc : ws.length ≤ c) (ho : ¬ (checkV F ws N).2 = 0 ∨ 3000 < F) :
    Calls Try.prog 6 #[.agg #[.int .i64 F, .slice A ws.length c], .int .i64 N, .int .i64 fr] w fun e w' => e = .returned (.bool true) ∧ Below w.heap.size w w' := by
  have HR := Lib.hid hr
  have HC := Lib.hid hc
  obtain ⟨a, e, hv⟩ : ∃ a e, checkV F ws N = (a, e) := ⟨_, _, rfl⟩
  rw [hv] at ho
  simp only at ho
  have HV := Lib.hid hv
  clear hr hc hv
  have i0 := Bp.new w F A c ws 24 HR.out
  have I0 := Lib.hid i0
  clear i0
  go_enter Try.func6, Try.ntmps6
  go_wp2_with fail
  refine (works_true _).mono ?_
  rintro e' w1 ⟨rfl, hb⟩
  have i1 := I0.out.next hb
  have I1 := Lib.hid i1
  obtain ⟨_, _, cF, cS, _⟩ := i1
  clear hb
  go_wp2_with fail
  refine (check_at _ I1.out.row HC.out HV.out).mono ?_
  rintro e' w2 ⟨rfl, hb⟩
  have i2 := I1.out.next hb
  have I2 := Lib.hid i2
  clear hb cF cS I1
  obtain ⟨_, _, cF, cS, _⟩ := i2
  by_cases he : e = 0
  · have hF : 3000 < F := by rcases ho with h | h; exact absurd he h; exact h
    clear ho
    go_wp2
    go_ret
    exact ⟨rfl, I2.out.bel⟩
  · clear ho
    go_wp2
    go_ret
    exact ⟨rfl, I2.out.bel⟩

set_option maxRecDepth 100000 in
set_option maxHeartbeats 4000000 in
theorem whole_good (F : Int) (A : Option Addr) (c : Nat) (ws : List S36) (N fr : Int) (w : World) (hr : Kd.C k36 w A ws.length ws) (hc : ws.length ≤ c) (g : Good F ws N) (hF : F ≤ 3000) :
    Calls Try.prog 6 #[.agg #[.int .i64 F, .slice A ws.length c], .int .i64 N, .int .i64 fr] w fun e w' => e = .returned (.bool true) ∧ Below w.heap.size w w' := by
  have HR := Lib.hid hr
  have HC := Lib.hid hc
  have n1 := g.n1
  have n2 := g.n2
  have l1 := g.l1
  have F1 := g.f1
  have l2 := g.l2
  have G := Lib.hid g
  obtain ⟨ad, rfl⟩ := C_some hr l1
  have eK := wrapK fr (n := 1000) (by omega) (by omega)
  obtain ⟨k0, k1⟩ := umod_in (x := fr) (N := 1000) (by omega)
  generalize umod fr 1000 = k at eK k0 k1
  have i0 := Bp.new w F (some ad) c ws 24 HR.out
  have I0 := Lib.hid i0
  clear hr hc i0 g
  go_enter Try.func6, Try.ntmps6
  go_wp2_with fail
  refine (works_true _).mono ?_
  rintro e' w1 ⟨rfl, hb⟩
  have i1 := I0.out.next hb
  have I1 := Lib.hid i1
  obtain ⟨_, _, cF, cS, _⟩ := i1
  clear hb
  go_wp2_with fail
  refine (check_at _ I1.out.row HC.out G.out.is).mono ?_
  rintro e' w2 ⟨rfl, hb⟩
  have i2 := I1.out.next hb
  have I2 := Lib.hid i2
  clear hb cF cS I1
  obtain ⟨_, _, cF, cS, _⟩ := i2
  go_wp2_with fail
  simp only [eK]
  refine (gaps_try F ad c ws N _ I2.out.row HC.out G.out).mono ?_
  rintro e' w3 ⟨v, rfl, hv, hb⟩
  obtain ⟨A3, c3, rfl⟩ := Kd.R_slice hv
  have h3 := (Kd.R_reads' hv).2.2
  have i3 := I2.out.next hb
  have I3 := Lib.hid i3
  have H3 := Lib.hid h3
  clear hb cF cS I2 hv h3
  obtain ⟨_, _, cF, cS, _⟩ := i3
  go_wp2_with fail
  go_loopw [11, 12] (fun al pt wr => ∃ n : Nat, (n : Int) ≤ N + 1 ∧ pt = .int .i64 ((n : Int) - 1) ∧ al = .int .i64 (shares ws n) ∧ Hid (Below w3.heap.size w3 wr)) (fun _ pt _ => (N - intOf pt).toNat)
  case atStart => exact ⟨0, by omega, rfl, rfl, Below.refl _ _⟩
  case round =>
    obtain ⟨n, hn, rfl, rfl, HB⟩ := hrel
    have i4 := I3.out.next HB.out
    have I4 := Lib.hid i4
    clear cF cS
    obtain ⟨_, _, cF, cS, _⟩ := i4
    by_cases hlt : (n : Int) ≤ N
    · have hs := share_good (p := (n : Int) - 1) G.out (by omega) (by omega)
      have hsi := shares_in G.out.chain n
      have hs2 := share_in ((n : Int) - 1) G.out.chain
      have hnF : (n : Int) * F ≤ 9 * 3000 := Int.mul_le_mul (by omega) hF (by omega) (by omega)
      have w1 : IntKind.i64.wrap (shares ws n + share ((n : Int) - 1) ws) = shares ws (n + 1) := IntWalk.i64_in _ (by omega)
      have w2 : IntKind.i64.wrap ((n : Int) - 1 + 1) = ((n + 1 : Nat) : Int) - 1 := by rw [IntWalk.i64_in _ (by omega)]; omega
      have HS := Lib.hid hs
      clear hs hsi hs2 hnF
      generalize hsh : share ((n : Int) - 1) ws = sh at w1 HS
      generalize shares ws n = s0 at w1
      generalize hs1 : shares ws (n + 1) = s1 at w1
      have HSN := Lib.hid hs1
      clear hs1 hsh
      go_wp2_with fail
      refine (share_any F _ c ws N ((n : Int) - 1) _ I4.out.row HC.out).mono ?_
      rw [HS.out]
      rintro e' w4 ⟨rfl, hb⟩
      go_wp2
      go_roundw
      case rel => exact ⟨n + 1, by omega, congrArg (Value.int .i64) (by omega), by rw [HSN.out], Lib.hid (bnext HB.out hb)⟩
      case measure => simp [intOf]; omega
    · have hN : (n : Int) = N + 1 := by omega
      have hs : shares ws n = lens ws := shares_all n hN G.out.chain
      have hg : lens ws + lens (gp 0 (ws ++ [⟨0, F, 0⟩])) = F - 0 := gaps_all G.out.chain
      rw [hs]
      have l0 := (share_in 0 G.out.chain).2
      have l00 := (share_in 0 G.out.chain).1
      have l3 : 0 ≤ lens ws ∧ lens ws ≤ F := by omega
      clear hs l0 l00
      generalize lens ws = T at hg l3 ⊢
      have hgi := gp_in (by omega) G.out.chain
      have hmx := Kd.C_max H3.out
      have hti := fun t h0 h1 => tick_one (t := t) G.out h0 h1
      generalize gp 0 (ws ++ [⟨0, F, 0⟩]) = gl at hg hgi hmx hti H3 ⊢
      have hpart := lens_part (fun x hx => (hgi x hx).2.1)
      have HG := Lib.hid hg
      have HGI := Lib.hid hgi
      have HTI := Lib.hid hti
      have HPT := Lib.hid hpart
      clear hg hgi hti hpart
      go_wp2_with fail
      go_loopw [11, 73] (fun al i wr => ∃ m : Nat, m ≤ gl.length ∧ i = .int .i64 m ∧ al = .int .i64 (T + lens (gl.take m)) ∧ Hid (Below w3.heap.size w3 wr)) (fun _ i _ => gl.length - (intOf i).toNat)
      case atStart => exact ⟨0, Nat.zero_le _, rfl, by simp [lens], HB⟩
      case round =>
        clear HB I4 cF cS
        obtain ⟨m, hm, rfl, rfl, HB⟩ := hrel
        have i4 := I3.out.next HB.out
        have I4 := Lib.hid i4
        obtain ⟨_, _, cF, cS, _⟩ := i4
        by_cases hlt : m < gl.length
        · obtain ⟨ad3, rfl⟩ := C_some H3.out (by omega)
          obtain ⟨x0, x1, x2⟩ := at_win (Kd.C_below H3.out HB.out) hlt
          have hgx := HGI.out _ (win_mem hlt)
          have hl0 := HPT.out m
          have hlt' := lens_take hlt
          have hg := HG.out
          generalize (win gl m).f0 = a0 at x0
          generalize (win gl m).f1 = a1 at x1 hgx
          generalize (win gl m).f2 = a2 at x2 hgx hlt'
          have w1 : IntKind.i64.wrap (T + lens (gl.take m) + a2) = T + lens (gl.take (m + 1)) := by rw [hlt', IntWalk.i64_in _ (by omega)]; omega
          clear hl0 hlt' hg
          generalize lens (gl.take m) = s0 at w1
          generalize hs1 : T + lens (gl.take (m + 1)) = s1 at w1
          have HS1 := Lib.hid hs1
          clear hs1
          go_wp2
          go_roundw
          case rel => exact ⟨m + 1, by omega, by go_num, by rw [HS1.out], Lib.hid (bnext HB.out (bnew _ _))⟩
          case measure => simp [intOf]; omega
        · obtain rfl : m = gl.length := by omega
          have hT : T + lens (gl.take gl.length) = F := by rw [List.take_length]; have := HG.out; omega
          rw [hT]
          clear hT
          go_wp2_with fail
          go_loopw [88] (fun tv wr => ∃ t : Nat, (t : Int) ≤ F ∧ tv = .int .i64 t ∧ Hid (Below w3.heap.size w3 wr)) (fun tv _ => (F - intOf tv).toNat)
          case atStart => exact ⟨0, by omega, rfl, HB⟩
          case round =>
            clear HB I4 cF cS
            obtain ⟨t, ht, rfl, HB⟩ := hrel
            have i4 := I3.out.next HB.out
            have I4 := Lib.hid i4
            obtain ⟨_, _, cF, cS, _⟩ := i4
            by_cases hlt : (t : Int) < F
            · go_wp2_with fail
              go_loopw [18, 93] (fun iv i wr => ∃ m : Nat, m ≤ gl.length ∧ i = .int .i64 m ∧ iv = .int .i64 (ins t (gl.take m) : Nat) ∧ Hid (Below w3.heap.size w3 wr)) (fun _ i _ => gl.length - (intOf i).toNat)
              case atStart => exact ⟨0, Nat.zero_le _, rfl, by simp [ins], HB⟩
              case round =>
                clear HB I4 cF cS
                obtain ⟨m, hm, rfl, rfl, HB⟩ := hrel
                have i4 := I3.out.next HB.out
                have I4 := Lib.hid i4
                obtain ⟨_, _, cF, cS, _⟩ := i4
                by_cases hm2 : m < gl.length
                · obtain ⟨ad3, rfl⟩ := C_some H3.out (by omega)
                  obtain ⟨x0, x1, x2⟩ := at_win (Kd.C_below H3.out HB.out) hm2
                  have hgx := HGI.out _ (win_mem hm2)
                  have hit := ins_take (t : Int) hm2
                  have hil := ins_le (t : Int) (gl.take m)
                  have hil2 : (gl.take m).length ≤ m := List.length_take_le _ _
                  have hin : ins t (gl.take m) < 9223372036854775807 := by omega
                  generalize (win gl m).f0 = a0 at x0
                  generalize (win gl m).f1 = a1 at x1 hgx hit
                  generalize (win gl m).f2 = a2 at x2 hgx hit
                  have w1 : IntKind.i64.wrap (a1 + a2) = a1 + a2 := IntWalk.i64_in _ (by omega)
                  clear hil hil2
                  generalize ins t (gl.take m) = n0 at hit hin
                  by_cases h1 : a1 ≤ (t : Int)
                  · by_cases h2 : (t : Int) < a1 + a2
                    · rw [if_pos ⟨h1, h2⟩] at hit
                      have HIT := Lib.hid hit
                      clear hit
                      go_wp2
                      go_roundw
                      case rel => exact ⟨m + 1, by omega, by go_num, by rw [HIT.out]; go_num, Lib.hid (bnext HB.out (bnew _ _))⟩
                      case measure => simp [intOf]; omega
                    · rw [if_neg (fun h => h2 h.2)] at hit
                      have HIT := Lib.hid hit
                      clear hit
                      go_wp2
                      go_roundw
                      case rel => exact ⟨m + 1, by omega, by go_num, by rw [HIT.out]; rfl, Lib.hid (bnext HB.out (bnew _ _))⟩
                      case measure => simp [intOf]; omega
                  · rw [if_neg (fun h => h1 h.1)] at hit
                    have HIT := Lib.hid hit
                    clear hit
                    go_wp2
                    go_roundw
                    case rel => exact ⟨m + 1, by omega, by go_num, by rw [HIT.out]; rfl, Lib.hid (bnext HB.out (bnew _ _))⟩
                    case measure => simp [intOf]; omega
                · obtain rfl : m = gl.length := by omega
                  rw [List.take_length]
                  have hk0 : 0 ≤ k * F := Int.mul_nonneg k0 (by omega)
                  have hk1 : k * F ≤ 1000 * 3000 := Int.mul_le_mul (by omega) hF (by omega) (by omega)
                  have w1 : IntKind.i64.wrap (k * F) = k * F := IntWalk.i64_in _ (by omega)
                  have w2 : IntKind.i64.wrap (k * F + t) = k * F + t := IntWalk.i64_in _ (by omega)
                  have HA : Hid (atV F ws N t = (idxFrom t 0 ws, 0, 0)) := by
                    have := at_good (q := 0) (s := (t : Int)) G.out (by omega) (by omega) hlt
                    rw [Int.zero_mul, Int.zero_add] at this
                    exact this
                  have HA2 : Hid (atV F ws N (k * F + t) = (idxFrom t 0 ws, k, 0)) := at_good G.out k0 (by omega) hlt
                  have hcase := HTI.out t (by omega) hlt
                  generalize idxFrom (t : Int) 0 ws = ix at HA HA2 hcase
                  generalize ins (t : Int) gl = n0 at hcase ⊢
                  have HBK : Hid (0 ≤ k * F ∧ k * F ≤ 3000000) := ⟨hk0, by omega⟩
                  clear hk0 hk1
                  have hbig : (k * F + t) ≤ 9223372036854775807 := by have := HBK.out; omega
                  have HBIG := Lib.hid hbig
                  clear hbig
                  rcases hcase with ⟨q1, q2⟩ | ⟨q1, q2⟩
                  · subst q2
                    go_wp2_with fail
                    refine (plan_at_any F _ c ws N t _ I4.out.row HC.out (by omega)).mono ?_
                    rw [HA.out]
                    rintro e' w5 ⟨rfl, hb⟩
                    have i5 := I4.out.next hb
                    have I5 := Lib.hid i5
                    have HB5 := Lib.hid (bnext HB.out hb)
                    clear hb cF cS
                    obtain ⟨_, _, cF, cS, _⟩ := i5
                    go_wp2_with fail
                    refine (plan_at_any F _ c ws N (k * F + t) _ I5.out.row HC.out HBIG.out).mono ?_
                    rw [HA2.out]
                    rintro e' w6 ⟨rfl, hb⟩
                    have HB6 := Lib.hid (bnext HB5.out hb)
                    clear hb cF cS
                    go_wp2
                    go_roundw
                    case rel => exact ⟨t + 1, by omega, by go_num, HB6⟩
                    case measure => simp [intOf]; omega
                  · subst q1 q2
                    go_wp2_with fail
                    refine (plan_at_any F _ c ws N t _ I4.out.row HC.out (by omega)).mono ?_
                    rw [HA.out]
                    rintro e' w5 ⟨rfl, hb⟩
                    have i5 := I4.out.next hb
                    have I5 := Lib.hid i5
                    have HB5 := Lib.hid (bnext HB.out hb)
                    clear hb cF cS
                    obtain ⟨_, _, cF, cS, _⟩ := i5
                    go_wp2_with fail
                    refine (plan_at_any F _ c ws N (k * F + t) _ I5.out.row HC.out HBIG.out).mono ?_
                    rw [HA2.out]
                    rintro e' w6 ⟨rfl, hb⟩
                    have HB6 := Lib.hid (bnext HB5.out hb)
                    clear hb cF cS
                    go_wp2
                    go_roundw
                    case rel => exact ⟨t + 1, by omega, by go_num, HB6⟩
                    case measure => simp [intOf]; omega
            · go_wp2
              go_ret
              exact ⟨rfl, I4.out.bel⟩

/-- **PlanWhole** is true, whatever the plan, the partitions and the frame -/
theorem whole_any (F : Int) (A : Option Addr) (c : Nat) (ws : List S36) (N fr : Int) (w : World) (hr : Kd.C k36 w A ws.length ws) (hc : ws.length ≤ c) :
    Calls Try.prog 6 #[.agg #[.int .i64 F, .slice A ws.length c], .int .i64 N, .int .i64 fr] w fun e w' => e = .returned (.bool true) ∧ Below w.heap.size w w' := by
  by_cases he : (checkV F ws N).2 = 0
  · by_cases hF : F ≤ 3000
    · exact whole_good F A c ws N fr w hr hc (good_of he) hF
    · exact whole_out F A c ws N fr w hr hc (.inr (by omega))
  · exact whole_out F A c ws N fr w hr hc (.inl he)

end Go.Proofs.Ytdajedggennljaa.PPlanWhole
