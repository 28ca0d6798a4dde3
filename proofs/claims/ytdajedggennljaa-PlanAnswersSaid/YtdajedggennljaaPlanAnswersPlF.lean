/-
  Plain law of layer 21: the k-th window of a partition, the ticks of it, ahead of it and behind it; as many windows further is a frame later.
-/
import Derived.Test.YtdajedggennljaaPlanAnswersPlD
namespace Go.Proofs.Ytdajedggennljaa.PPlanAnswers
open Go.RowKit Go.Shelf Go.Proofs.YtdajedggennljaaW.PrintWords Go.Proofs.YtdajedggennljaaW.PrintLast Go.Proofs.YtdajedggennljaaW.PrintMore

theorem at_good {F : Int} {ws : List S36} {N : Int} (g : Good F ws N) {q s : Int} (hq : 0 ≤ q) (h0 : 0 ≤ s) (h1 : s < F) : atV F ws N (q * F + s) = (idxFrom s 0 ws, q, 0) := by
  have hF := g.f1
  have hqF : 0 ≤ q * F := Int.mul_nonneg hq (by omega)
  unfold atV
  rw [g.is]
  rw [if_neg (by simp), if_neg (by omega), Int.add_comm, Int.mul_comm, Int.add_mul_emod_self_left, Int.emod_eq_of_lt h0 h1, Int.add_mul_ediv_left _ _ (by omega), Int.ediv_eq_zero_of_lt h0 h1, Int.zero_add]
theorem starts_good {F : Int} {ws : List S36} {N p k : Int} (g : Good F ws N) (h0 : 0 ≤ p) (h1 : p < N) (h2 : 0 ≤ k) (h3 : k ≤ 1048576) : startsV F ws N p k = (k / (cnt p ws : Int) * F + st p ws (k.toNat % cnt p ws), 0) := by
  unfold startsV
  rw [g.is, if_neg (by simp), if_neg (by omega)]
theorem st_zero_nonneg {F : Int} {ws : List S36} {N p : Int} (g : Good F ws N) (h : 0 < cnt p ws) : 0 ≤ st p ws 0 ∧ st p ws 0 < F := g.st 0 h
/-- a start, and the next one of the same frame -/
theorem st_next {F : Int} {ws : List S36} {N p : Int} (g : Good F ws N) {j m : Nat} (hj : j + 1 < cnt p ws) (hc : cnt p (ws.take m) = j) : (win ws m).f1 + (win ws m).f2 ≤ st p ws (j + 1) := by
  obtain ⟨m', h1, _, h3, h4⟩ := st_at hj
  rw [h3]
  exact chain_lt g.chain (st_order (p := p) (ws := ws) (by omega)) h1
theorem div_next {k n : Nat} (hn : 0 < n) : ((k + 1) % n = k % n + 1 ∧ (k + 1) / n = k / n ∧ k % n + 1 < n) ∨ ((k + 1) % n = 0 ∧ (k + 1) / n = k / n + 1) := by
  have h1 := Nat.mod_lt k hn
  have h2 := Nat.div_add_mod k n
  by_cases h : k % n + 1 < n
  · left
    have e : k + 1 = (k % n + 1) + n * (k / n) := by omega
    refine ⟨?_, ?_, h⟩
    · rw [e, Nat.add_mul_mod_self_left, Nat.mod_eq_of_lt h]
    · conv => lhs; rw [e]
      rw [Nat.add_mul_div_left _ _ hn, Nat.div_eq_of_lt h, Nat.zero_add]
  · right
    have e : k + 1 = n * (k / n + 1) := by rw [Nat.mul_add, Nat.mul_one]; omega
    refine ⟨?_, ?_⟩
    · rw [e, Nat.mul_mod_right]
    · conv => lhs; rw [e]
      rw [Nat.mul_div_cancel_left _ hn]

theorem times_plain {F : Int} {ws : List S36} {N p k : Int} (g : Good F ws N) (h0 : 0 ≤ p) (h1 : p < N) (h2 : 0 ≤ k) (h3 : k ≤ 1000000) :
    ∃ (m : Nat) (q t : Int), m < ws.length ∧ (win ws m).f0 = p ∧ t = q * F + (win ws m).f1 ∧ 0 ≤ q ∧ q ≤ k ∧ 0 ≤ (win ws m).f1 ∧ 1 ≤ (win ws m).f2 ∧ (win ws m).f1 + (win ws m).f2 ≤ F ∧
      startsV F ws N p k = (t, 0) ∧ atV F ws N t = ((m : Int), q, 0) ∧ atV F ws N (t + (win ws m).f2 - 1) = ((m : Int), q, 0) ∧
      (∃ j q', atV F ws N (t + (win ws m).f2) = (j, q', 0) ∧ ¬ (j = (m : Int) ∧ q' = q)) ∧
      (∃ nx, startsV F ws N p (k + 1) = (nx, 0) ∧ t + (win ws m).f2 ≤ nx) ∧
      (t = 0 ∨ ∃ j q', atV F ws N (t - 1) = (j, q', 0) ∧ ¬ (j = (m : Int) ∧ q' = q)) := by
  have hn := g.has p h0 h1
  obtain ⟨k, rfl⟩ := Int.eq_ofNat_of_zero_le h2
  have hs := starts_good (k := (k : Int)) g h0 h1 (by omega) (by omega)
  have hs' := starts_good (k := (k : Int) + 1) g h0 h1 (by omega) (by omega)
  rw [show ((k : Int) + 1) = ((k + 1 : Nat) : Int) from rfl] at hs' ⊢
  rw [Int.toNat_natCast] at hs hs'
  rw [← Int.natCast_ediv] at hs hs'
  have hj := Nat.mod_lt k hn
  obtain ⟨m, m1, m2, m3, m4⟩ := st_at hj
  have hc := chain_at g.chain m1
  have hF1 := g.f1
  have hF2 := g.f2
  have hq : k / cnt p ws ≤ k := Nat.div_le_self k (cnt p ws)
  have hdn := div_next (k := k) hn
  rw [m3] at hs
  generalize k / cnt p ws = Q at hs hq hdn
  generalize k % cnt p ws = J at hj m4 hdn
  generalize (k + 1) / cnt p ws = Q1 at hs' hdn
  generalize (k + 1) % cnt p ws = J1 at hs' hdn
  refine ⟨m, (Q : Int), _, m1, m2, rfl, by omega, by omega, hc.2.2.2.1, hc.2.2.1, hc.2.2.2.2, hs, ?_, ?_, ?_, ?_, ?_⟩
  · rw [at_good g (by omega) hc.2.2.2.1 (by omega), idx_in g.chain hF2 m1 (by omega) (by omega) (by omega)]
  · rw [show ∀ a b c : Int, a + b + c - 1 = a + (b + c - 1) by omega, at_good g (by omega) (by omega) (by omega), idx_in g.chain hF2 m1 (by omega) (by omega) (by omega)]
  · by_cases he : (win ws m).f1 + (win ws m).f2 < F
    · refine ⟨_, _, by rw [Int.add_assoc, at_good g (by omega) (by omega) he], fun h => ?_⟩
      exact idx_out g.chain hF2 m1 (by omega) (by omega) (by omega) h.1
    · have hf : (win ws m).f1 + (win ws m).f2 = F := by omega
      refine ⟨_, _, by rw [Int.add_assoc, hf, show (Q : Int) * F + F = ((Q : Int) + 1) * F + 0 by rw [Int.add_mul]; omega, at_good g (by omega) (by omega) (by omega)], fun h => ?_⟩
      have := h.2
      omega
  · refine ⟨_, hs', ?_⟩
    rcases hdn with ⟨d1, d2, d3⟩ | ⟨d1, d2⟩
    · rw [d1, d2]
      have := st_next g d3 m4
      omega
    · rw [d1, d2]
      have := st_zero_nonneg g hn
      have e : ((Q + 1 : Nat) : Int) * F = (Q : Int) * F + F := by rw [Int.natCast_add, Int.add_mul]; omega
      rw [e]
      omega
  · by_cases hz : (win ws m).f1 = 0
    · by_cases hq0 : Q = 0
      · left; rw [hq0, hz]; simp
      · right
        have e : (Q : Int) * F + (win ws m).f1 - 1 = ((Q : Int) - 1) * F + (F - 1) := by rw [Int.sub_mul]; omega
        refine ⟨_, _, by rw [e, at_good g (by omega) (by omega) (by omega)], fun h => ?_⟩
        have := h.2
        omega
    · right
      refine ⟨_, _, by rw [show ∀ a b : Int, a + b - 1 = a + (b - 1) by omega, at_good g (by omega) (by omega) (by omega)], fun h => ?_⟩
      exact idx_out g.chain hF2 m1 (by omega) (by omega) (by omega) h.1

theorem next_plain {F : Int} {ws : List S36} {N p k : Int} (g : Good F ws N) (h0 : 0 ≤ p) (h1 : p < N) (h2 : 0 ≤ k) (h3 : k ≤ 1000000) :
    ∃ x y z, startsV F ws N p k = (x, 0) ∧ startsV F ws N p (k + (cnt p ws : Int)) = (y, 0) ∧ startsV F ws N p (k + 1) = (z, 0) ∧ y = x + F ∧ x < z ∧ 0 ≤ x ∧ x ≤ k * 65536 + 65536 := by
  obtain ⟨m, q, t, m1, m2, m3, m4, m5, m6, m7, m8, m9, _, _, _, ⟨nx, m10, m11⟩, _⟩ := times_plain g h0 h1 h2 h3
  have hn := g.has p h0 h1
  have hl := cnt_le p ws
  have hl2 := g.l2
  have hF1 := g.f1
  have hF2 := g.f2
  have hqF : 0 ≤ q * F := Int.mul_nonneg m4 (by omega)
  have hqF2 : q * F ≤ k * 65536 := Int.mul_le_mul m5 hF2 (by omega) (by omega)
  refine ⟨t, t + F, nx, m9, ?_, m10, rfl, by omega, by omega, by omega⟩
  obtain ⟨k, rfl⟩ := Int.eq_ofNat_of_zero_le h2
  have hs := starts_good (k := (k : Int)) g h0 h1 (by omega) (by omega)
  have hs' := starts_good (k := (k : Int) + (cnt p ws : Int)) g h0 h1 (by omega) (by omega)
  rw [m9] at hs
  rw [hs', ← Int.natCast_add, Int.toNat_natCast, Nat.add_mod_right, ← Int.natCast_ediv, Nat.add_div_right _ hn]
  rw [Int.toNat_natCast, ← Int.natCast_ediv] at hs
  have ht := congrArg Prod.fst hs
  simp only at ht
  rw [ht, Int.natCast_succ, Int.add_mul]
  congr 1; omega

end Go.Proofs.Ytdajedggennljaa.PPlanAnswers
