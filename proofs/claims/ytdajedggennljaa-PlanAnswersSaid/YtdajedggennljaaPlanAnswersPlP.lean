/-
  Plain law of layer 21: the document's answer (the printed reference functions) comes to the program's words.
-/
import Derived.Test.YtdajedggennljaaPlanAnswersPlJ
import Derived.Test.YtdajedggennljaaPPlanAnswersx3
import Derived.Test.YtdajedggennljaaPPlanAnswersx4
import Derived.Test.YtdajedggennljaaPPlanAnswersx5
import Derived.Test.YtdajedggennljaaPPlanAnswersx6
namespace Go.Proofs.Ytdajedggennljaa.PPlanAnswers
open Go.RowKit Go.Shelf Go.Proofs.YtdajedggennljaaW.PrintWords Go.Proofs.YtdajedggennljaaW.PrintLast Go.Proofs.YtdajedggennljaaW.PrintMore

/-- a partition's windows -/
def pick (p : Int) : List S36 → List S36
  | [] => []
  | x :: r => if x.f0 = p then x :: pick p r else pick p r
theorem pick_length (p : Int) (ws : List S36) : (pick p ws).length = cnt p ws := by
  induction ws with
  | nil => rfl
  | cons x r ih => simp only [pick, cnt]; split <;> simp [ih]; omega
theorem of_l0 (p F : Int) (ws : List S36) (hl : ws.length ≤ 32) (d : Nat) : ∀ (k i : Nat) (acc : List S36), i + d = ws.length → acc.length ≤ i → d < k →
    capstanref21_of.l0 k p acc (i : Int) F ws = some (acc ++ pick p (ws.drop i)) := by
  induction d with
  | zero =>
    intro k i acc hi _ hk
    obtain ⟨k, rfl⟩ : ∃ m, k = m + 1 := ⟨k - 1, by omega⟩
    have e : ws.drop i = [] := List.drop_eq_nil_of_le (by omega)
    simp only [capstanref21_of.l0]
    rw [if_neg (by omega), e]; simp [pick]
  | succ d ih =>
    intro k i acc hi ha hk
    obtain ⟨k, rfl⟩ : ∃ m, k = m + 1 := ⟨k - 1, by omega⟩
    have hlt : i < ws.length := by omega
    rw [drop_at ws i hlt]
    generalize hx : rd_T36 ws (i : Int) = x
    simp only [capstanref21_of.l0, pick]
    rw [if_pos (by omega), if_pos (by omega), hx, w1 hlt (by unfold maxLen; omega)]
    by_cases h : x.f0 = p
    · rw [if_pos h, if_pos h, if_pos (by omega), ih k (i + 1) _ (by omega) (by simp; omega) (by omega)]
      simp
    · rw [if_neg h, if_neg h, ih k (i + 1) acc (by omega) (by omega) (by omega)]
theorem of_f (k : Nat) (F p : Int) (ws : List S36) (hl : ws.length ≤ 32) (hk : ws.length < k) : capstanref21_of.f k F ws p = some (pick p ws) := by
  have := of_l0 p F ws hl ws.length k 0 [] (by omega) (by simp) hk
  simp only [List.drop_zero, List.nil_append, Int.natCast_zero] at this
  exact this

theorem rcheck_l1 (F : Int) (ws : List S36) (hl : ws.length ≤ 32) (N : Int) (hN : N ≤ 8) (d : Nat) : ∀ (k p : Nat), (p : Int) + d = N → ws.length + d + 1 < k →
    capstanref21_Check.l1 k N (p : Int) F ws = some (if noneOf ws d p = true then (-1, 210) else (0, 0)) := by
  induction d with
  | zero =>
    intro k p hp hk
    obtain ⟨k, rfl⟩ : ∃ m, k = m + 1 := ⟨k - 1, by omega⟩
    simp only [capstanref21_Check.l1, noneOf]
    rw [if_neg (by omega)]; rfl
  | succ d ih =>
    intro k p hp hk
    obtain ⟨k, rfl⟩ : ∃ m, k = m + 1 := ⟨k - 1, by omega⟩
    simp only [capstanref21_Check.l1]
    rw [if_pos (by omega), of_f k F _ ws hl (by omega)]
    simp only [Option.bind_some, pick_length]
    rw [if_pos (by omega)]
    by_cases h : cnt (p : Int) ws = 0
    · have e : noneOf ws (d + 1) p = true := by simp [noneOf, h]
      rw [if_pos (by omega), if_pos e]
    · have e : noneOf ws (d + 1) p = noneOf ws d (p + 1) := by simp [noneOf, h]
      rw [if_neg (by omega), if_neg (by omega), show wrap64 ((p : Int) + 1) = ((p + 1 : Nat) : Int) from by unfold wrap64; omega, ih k (p + 1) (by omega) (by omega)]
      simp only [e]

theorem rcheck_l0 (F : Int) (ws : List S36) (hl : ws.length ≤ 32) (N : Int) (h1 : 1 ≤ N) (hN : N ≤ 8) (hF1 : 1 ≤ F) (hF2 : F ≤ 65536) (d : Nat) : ∀ (k i : Nat) (e : Int), i + d = ws.length → 0 ≤ e → e ≤ F → ws.length + d + 14 < k →
    capstanref21_Check.l0 k N e (i : Int) F ws = some (match firstBad F N e (i : Int) (ws.drop i) with
      | some j => (j, 210)
      | none => if 1 < cnt (-1) ws then (-1, 210) else if noneOf ws N.toNat 0 = true then (-1, 210) else (0, 0)) := by
  induction d with
  | zero =>
    intro k i e hi he1 he2 hk
    obtain ⟨k, rfl⟩ : ∃ m, k = m + 1 := ⟨k - 1, by omega⟩
    have en : ws.drop i = [] := List.drop_eq_nil_of_le (by omega)
    simp only [capstanref21_Check.l0]
    rw [if_neg (by omega), en]
    obtain ⟨k, rfl⟩ : ∃ m, k = m + 1 := ⟨k - 1, by omega⟩
    simp only [capstanref21_Check.l1]
    rw [if_pos (by omega), of_f k F _ ws hl (by omega)]
    simp only [Option.bind_some, firstBad, pick_length]
    rw [if_neg (by omega), if_pos (by omega)]
    by_cases h : 1 < cnt (-1) ws
    · rw [if_pos (by omega), if_pos h]
    · rw [if_neg (by omega), if_neg h, show wrap64 ((-1 : Int) + 1) = 0 from by unfold wrap64; omega]
      exact rcheck_l1 F ws hl N hN N.toNat k 0 (by omega) (by omega)
  | succ d ih =>
    intro k i e hi he1 he2 hk
    obtain ⟨k, rfl⟩ : ∃ m, k = m + 1 := ⟨k - 1, by omega⟩
    have hlt : i < ws.length := by omega
    rw [drop_at ws i hlt]
    generalize hx : rd_T36 ws (i : Int) = x
    simp only [capstanref21_Check.l0, firstBad]
    rw [if_pos (by omega), if_pos (by omega), hx]
    by_cases b : bad F N e x
    · rw [if_pos b]
      unfold bad at b
      by_cases b1 : x.f0 < -1
      · rw [if_pos b1]
      rw [if_neg b1]
      by_cases b2 : N ≤ x.f0
      · rw [if_pos b2]
      rw [if_neg b2]
      by_cases b3 : x.f2 < 1
      · rw [if_pos b3]
      rw [if_neg b3]
      by_cases b4 : x.f1 < e
      · rw [if_pos b4]
      rw [if_neg b4]
      by_cases b5 : x.f1 > F
      · rw [if_pos b5]
      rw [if_neg b5, if_pos (by unfold wrap64; omega)]
    · rw [if_neg b]
      unfold bad at b
      rw [if_neg (by omega), if_neg (by omega), if_neg (by omega), if_neg (by omega), if_neg (by omega), if_neg (by unfold wrap64; omega), w1 hlt (by unfold maxLen; omega),
        show wrap64 (x.f1 + x.f2) = x.f1 + x.f2 from by unfold wrap64; omega]
      exact ih k (i + 1) (x.f1 + x.f2) (by omega) (by omega) (by omega) (by omega)

theorem rcheck_f (F : Int) (ws : List S36) (N : Int) (k : Nat) (hk : 90 < k) : capstanref21_Check.f k F ws N = some (checkV F ws N) := by
  obtain ⟨k, rfl⟩ : ∃ m, k = m + 1 := ⟨k - 1, by omega⟩
  obtain ⟨k, rfl⟩ : ∃ m, k = m + 1 := ⟨k - 1, by omega⟩
  unfold capstanref21_Check.f checkV
  by_cases h1 : N < 1
  · rw [if_pos h1, if_pos (.inl h1)]; simp [capstanref21_Check.j0]
  · rw [if_neg h1]
    by_cases h2 : 8 < N
    · rw [if_pos (.inr h2)]; simp [capstanref21_Check.j0, h2]
    · rw [if_neg (by omega)]
      simp only [capstanref21_Check.j0, decide_eq_true_eq]
      rw [if_neg (by omega)]
      by_cases g : F < 1 ∨ 65536 < F ∨ ws.length < 1 ∨ 32 < ws.length
      · rw [if_pos g]
        simp only [capstanref21_Check.j1, if_true, decide_eq_true_eq]
        by_cases g1 : F < 1
        · rw [if_pos g1]
        rw [if_neg g1]
        by_cases g2 : F > 65536
        · rw [if_pos g2]
        rw [if_neg g2]
        by_cases g3 : (ws.length : Int) < 1
        · rw [if_pos g3]
        rw [if_neg g3, if_pos (by omega)]
      · rw [if_neg g, if_neg (by omega), if_neg (by omega), if_neg (by omega)]
        simp only [capstanref21_Check.j1, decide_eq_true_eq]
        rw [if_neg (by omega)]
        have := rcheck_l0 F ws (by omega) N (by omega) (by omega) (by omega) (by omega) ws.length k 0 0 (by omega) (by omega) (by omega) (by omega)
        simp only [List.drop_zero, Int.natCast_zero] at this
        rw [this]
        cases firstBad F N 0 0 ws <;> rfl

theorem rat_l0 (F t x : Int) (ws : List S36) (hl : ws.length ≤ 32) (hF : 1 ≤ F) (h0 : 0 ≤ t) (ht : t ≤ 9223372036854775807) (hx0 : 0 ≤ x) (hx1 : x ≤ 65536) (hb : ∀ m, m < ws.length → 0 ≤ (win ws m).f1 ∧ 0 ≤ (win ws m).f2 ∧ (win ws m).f1 + (win ws m).f2 ≤ 65536) (d : Nat) : ∀ (k i : Nat), i + d = ws.length → d < k →
    capstanref21_At.l0 k t x (i : Int) F ws = some (idxFrom x (i : Int) (ws.drop i), t / F, 0) := by
  have hd : wrap64 (Int.tdiv t F) = t / F := by
    rw [Int.tdiv_eq_ediv_of_nonneg h0]
    have h1 := Int.ediv_nonneg h0 (show 0 ≤ F by omega)
    have h2 := Int.ediv_le_self F h0
    exact IntWalk.wrap64_in _ (by omega)
  induction d with
  | zero =>
    intro k i hi hk
    obtain ⟨k, rfl⟩ : ∃ m, k = m + 1 := ⟨k - 1, by omega⟩
    have e : ws.drop i = [] := List.drop_eq_nil_of_le (by omega)
    simp only [capstanref21_At.l0]
    rw [if_neg (by omega), if_neg (by omega), e, hd]; rfl
  | succ d ih =>
    intro k i hi hk
    obtain ⟨k, rfl⟩ : ∃ m, k = m + 1 := ⟨k - 1, by omega⟩
    have hlt : i < ws.length := by omega
    have hw := hb i hlt
    rw [← rd_win] at hw
    rw [drop_at ws i hlt]
    generalize hv : rd_T36 ws (i : Int) = v at hw
    have hin : inW x v = true ↔ (v.f1 ≤ x ∧ x < v.f1 + v.f2) := by
      simp only [inW, Bool.and_eq_true, decide_eq_true_eq]
      rw [show wrap64 (x - v.f1) = x - v.f1 from IntWalk.wrap64_in _ (by omega)]
      omega
    simp only [capstanref21_At.l0, idxFrom]
    rw [if_pos (by omega), if_pos (by omega), hv, hd, w1 hlt (by unfold maxLen; omega), show wrap64 (v.f1 + v.f2) = v.f1 + v.f2 from IntWalk.wrap64_in _ (by omega), ih k (i + 1) (by omega) (by omega)]
    by_cases h1 : v.f1 ≤ x
    · rw [if_pos (show x ≥ v.f1 from h1)]
      by_cases h2 : x < v.f1 + v.f2
      · rw [if_pos h2, if_neg (by omega), if_pos (hin.2 ⟨h1, h2⟩)]
      · rw [if_neg h2, if_neg (fun h => h2 (hin.1 h).2)]; rfl
    · rw [if_neg (show ¬ x ≥ v.f1 from h1), if_neg (fun h => h1 (hin.1 h).1)]; rfl
theorem Good.wb {F : Int} {ws : List S36} {N : Int} (g : Good F ws N) : ∀ m, m < ws.length → 0 ≤ (win ws m).f1 ∧ 0 ≤ (win ws m).f2 ∧ (win ws m).f1 + (win ws m).f2 ≤ 65536 := fun m hm => by
  have := chain_at g.chain hm
  have := g.f2
  omega
theorem rat_f (F : Int) (ws : List S36) (N t : Int) (ht : t ≤ 9223372036854775807) (k : Nat) (hk : 90 < k) : capstanref21_At.f k F ws N t = some (atV F ws N t) := by
  unfold capstanref21_At.f atV
  rw [rcheck_f F ws N k hk]
  simp only [Option.bind_some]
  by_cases he : (checkV F ws N).2 = 0
  · have g := good_of he
    have hF := g.f1
    have hF2 := g.f2
    have hl := g.l2
    rw [if_pos he, if_neg (show ¬ ¬ (checkV F ws N).2 = 0 from fun h => h he)]
    by_cases h0 : t < 0
    · rw [if_pos h0, if_pos h0]
    · have m0 := Int.emod_nonneg t (show F ≠ 0 by omega)
      have m1 := Int.emod_lt_of_pos t (show 0 < F by omega)
      rw [if_neg h0, if_neg h0, if_neg (by omega), Int.tmod_eq_emod_of_nonneg (by omega)]
      have := rat_l0 F t (t % F) ws hl hF (by omega) ht m0 (by omega) g.wb ws.length k 0 (by omega) (by omega)
      simp only [List.drop_zero, Int.natCast_zero] at this
      exact this
  · rw [if_neg he, if_pos he]

theorem st_pick (p : Int) (ws : List S36) : ∀ (k j : Nat), ((sq p k ws).getD j (0, 0)).2 = (win (pick p ws) j).f1 := by
  induction ws with
  | nil => intro k j; simp [sq, pick, win]; rfl
  | cons x r ih =>
    intro k j
    simp only [sq, pick]
    split
    · cases j with
      | zero => simp [win]
      | succ j => rw [List.getD_cons_succ, ih (k + 1) j]; rfl
    · exact ih k j
theorem rstarts_f (F : Int) (ws : List S36) (N p kk : Int) (k : Nat) (hk : 90 < k) : capstanref21_Starts.f k F ws N p kk = some (startsV F ws N p kk) := by
  unfold capstanref21_Starts.f startsV
  rw [rcheck_f F ws N k hk]
  simp only [Option.bind_some]
  by_cases he : (checkV F ws N).2 = 0
  · have g := good_of he
    have hF := g.f1
    have hF2 := g.f2
    have hl := g.l2
    rw [if_pos he, if_neg (show ¬ ¬ (checkV F ws N).2 = 0 from fun h => h he)]
    by_cases h1 : p < 0
    · rw [if_pos h1, if_pos (.inl h1)]
    rw [if_neg h1]
    by_cases h2 : N ≤ p
    · rw [if_pos h2, if_pos (.inr (.inl h2))]
    rw [if_neg (by omega)]
    by_cases h3 : kk < 0
    · rw [if_pos h3, if_pos (.inr (.inr (.inl h3)))]
    rw [if_neg h3]
    by_cases h4 : 1048576 < kk
    · rw [if_pos h4, if_pos (.inr (.inr (.inr h4)))]
    have hn := g.has p (by omega) (by omega)
    rw [if_neg (by omega), if_neg (by omega), of_f k F p ws hl (by omega)]
    simp only [Option.bind_some, pick_length]
    obtain ⟨j, rfl⟩ := Int.eq_ofNat_of_zero_le (show 0 ≤ kk by omega)
    have hm := Nat.mod_lt j hn
    have hs := g.st _ hm
    have hd := Nat.div_le_self j (cnt p ws)
    rw [Int.tmod_eq_emod_of_nonneg (by omega), Int.tdiv_eq_ediv_of_nonneg (by omega), ← Int.natCast_emod, ← Int.natCast_ediv, Int.toNat_natCast]
    have hst : st p ws (j % cnt p ws) = (rd_T36 (pick p ws) ((j % cnt p ws : Nat) : Int)).f1 := by rw [rd_win]; exact st_pick p ws 0 _
    rw [hst] at hs ⊢
    generalize (rd_T36 (pick p ws) ((j % cnt p ws : Nat) : Int)).f1 = s at hs ⊢
    rw [if_neg (by omega), if_pos (by omega), if_pos (by omega)]
    generalize j / cnt p ws = q at hd ⊢
    have q0 : 0 ≤ (q : Int) * F := Int.mul_nonneg (by omega) (by omega)
    have q1 : (q : Int) * F ≤ 1048576 * 65536 := Int.mul_le_mul (by omega) hF2 (by omega) (by omega)
    rw [show wrap64 (q : Int) = q from IntWalk.wrap64_in _ (by omega), show wrap64 ((q : Int) * F) = q * F from IntWalk.wrap64_in _ (by omega), show wrap64 ((q : Int) * F + s) = q * F + s from IntWalk.wrap64_in _ (by omega)]
  · rw [if_neg he, if_pos he]

end Go.Proofs.Ytdajedggennljaa.PPlanAnswers
