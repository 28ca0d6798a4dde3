/-
  Plain law of layer 21 (plan): what plan.many and plan.Check come to (the printed functions), as a word of its own.
-/
import Derived.Test.YtdajedggennljaaPPlanAnswersx2
namespace Go.Proofs.Ytdajedggennljaa.PPlanAnswers
open Go.RowKit Go.Proofs.YtdajedggennljaaW.PrintWords Go.Proofs.YtdajedggennljaaW.PrintLast Go.Proofs.YtdajedggennljaaW.PrintMore

/-- how many windows a partition has -/
def cnt (p : Int) : List S36 → Nat
  | [] => 0
  | x :: r => (if x.f0 = p then 1 else 0) + cnt p r
theorem cnt_le (p : Int) (ws : List S36) : cnt p ws ≤ ws.length := by
  induction ws with
  | nil => simp [cnt]
  | cons x r ih => simp only [cnt, List.length_cons]; split <;> omega

theorem rd_at (ws : List S36) (i : Nat) (h : i < ws.length) : rd_T36 ws (i : Int) = ws[i] := by
  simp [rd_T36, List.getD_eq_getElem?_getD, h]
theorem drop_at (ws : List S36) (i : Nat) (h : i < ws.length) : ws.drop i = rd_T36 ws (i : Int) :: ws.drop (i + 1) := by
  rw [rd_at ws i h]; exact List.drop_eq_getElem_cons h
theorem w1 {i n : Nat} (h : i < n) (hn : n ≤ maxLen) : wrap64 ((i : Int) + 1) = ((i + 1 : Nat) : Int) := by
  unfold maxLen at hn; unfold wrap64; omega

theorem many_l0 (p : Int) (ws : List S36) (hn : ws.length ≤ maxLen) (d : Nat) : ∀ (k c i : Nat), i + d = ws.length → c ≤ i → d < k →
    plan_many.l0 k p (c : Int) ws (ws.length : Int) (i : Int) = some ((c + cnt p (ws.drop i) : Nat) : Int) := by
  induction d with
  | zero =>
    intro k c i hi hc hk
    obtain ⟨k, rfl⟩ : ∃ m, k = m + 1 := ⟨k - 1, by omega⟩
    have e : ws.drop i = [] := List.drop_eq_nil_of_le (by omega)
    simp only [plan_many.l0]
    rw [if_neg (by omega), e]; simp [cnt]
  | succ d ih =>
    intro k c i hi hc hk
    obtain ⟨k, rfl⟩ : ∃ m, k = m + 1 := ⟨k - 1, by omega⟩
    have hlt : i < ws.length := by omega
    rw [drop_at ws i hlt]
    simp only [plan_many.l0, cnt]
    rw [if_pos (by omega), if_pos (by omega), if_pos (by omega), w1 hlt hn]
    by_cases h : (rd_T36 ws (i : Int)).f0 = p
    · rw [if_pos h, if_pos h, w1 (show c < ws.length by omega) hn, ih k (c + 1) (i + 1) (by omega) (by omega) (by omega)]
      congr 2; omega
    · rw [if_neg h, if_neg h, ih k c (i + 1) (by omega) (by omega) (by omega)]
      congr 2; omega

theorem many_f (k : Nat) (F p : Int) (ws : List S36) (hn : ws.length ≤ maxLen) (hk : ws.length < k) : plan_many.f k F ws p = some (cnt p ws : Int) := by
  have := many_l0 p ws hn ws.length k 0 0 (by omega) (by omega) hk
  simpa [plan_many.f] using this

/-- what is wrong with a window behind the tick e -/
def bad (F N e : Int) (x : S36) : Prop := x.f0 < -1 ∨ N ≤ x.f0 ∨ x.f2 < 1 ∨ x.f1 < e ∨ F < x.f1 ∨ F - x.f1 < x.f2
instance (F N e : Int) (x : S36) : Decidable (bad F N e x) := by unfold bad; exact inferInstance
/-- the first window that is wrong -/
def firstBad (F N : Int) : Int → Int → List S36 → Option Int
  | _, _, [] => none
  | e, i, x :: r => if bad F N e x then some i else firstBad F N (x.f1 + x.f2) (i + 1) r
def noneOf (ws : List S36) : Nat → Nat → Bool
  | 0, _ => false
  | n + 1, p => if cnt (p : Int) ws = 0 then true else noneOf ws n (p + 1)
/-- plan.Check -/
def checkV (F : Int) (ws : List S36) (N : Int) : Int × Int :=
  if N < 1 ∨ 8 < N then (-1, 1)
  else if F < 1 ∨ 65536 < F ∨ ws.length < 1 ∨ 32 < ws.length then (-1, 210)
  else match firstBad F N 0 0 ws with
    | some i => (i, 210)
    | none => if 1 < cnt (-1) ws then (-1, 210) else if noneOf ws N.toNat 0 = true then (-1, 210) else (0, 0)

theorem check_l1 (F : Int) (ws : List S36) (hn : ws.length ≤ maxLen) (N : Int) (hN : N ≤ 8) (d : Nat) : ∀ (k p : Nat), (p : Int) + d = N → ws.length + d + 1 < k →
    plan_Check.l1 k N (p : Int) F ws = some (if noneOf ws d p = true then (-1, 210) else (0, 0)) := by
  induction d with
  | zero =>
    intro k p hp hk
    obtain ⟨k, rfl⟩ : ∃ m, k = m + 1 := ⟨k - 1, by omega⟩
    simp only [plan_Check.l1, noneOf]
    rw [if_neg (by omega)]; rfl
  | succ d ih =>
    intro k p hp hk
    obtain ⟨k, rfl⟩ : ∃ m, k = m + 1 := ⟨k - 1, by omega⟩
    simp only [plan_Check.l1]
    rw [if_pos (by omega), many_f k F _ ws hn (by omega)]
    simp only [Option.bind_some]
    by_cases h : cnt (p : Int) ws = 0
    · have e : noneOf ws (d + 1) p = true := by simp [noneOf, h]
      rw [if_pos (by omega), if_pos e]
    · have e : noneOf ws (d + 1) p = noneOf ws d (p + 1) := by simp [noneOf, h]
      rw [if_neg (by omega), show wrap64 ((p : Int) + 1) = ((p + 1 : Nat) : Int) from by unfold wrap64; omega, ih k (p + 1) (by omega) (by omega)]
      simp only [e]

theorem check_l0 (F : Int) (ws : List S36) (hn : ws.length ≤ maxLen) (N : Int) (h1 : 1 ≤ N) (hN : N ≤ 8) (hF1 : 1 ≤ F) (hF2 : F ≤ 65536) (d : Nat) : ∀ (k i : Nat) (e : Int), i + d = ws.length → 0 ≤ e → e ≤ F → ws.length + d + 12 < k →
    plan_Check.l0 k N e ws (ws.length : Int) (i : Int) F ws = some (match firstBad F N e (i : Int) (ws.drop i) with
      | some j => (j, 210)
      | none => if 1 < cnt (-1) ws then (-1, 210) else if noneOf ws N.toNat 0 = true then (-1, 210) else (0, 0)) := by
  induction d with
  | zero =>
    intro k i e hi he1 he2 hk
    obtain ⟨k, rfl⟩ : ∃ m, k = m + 1 := ⟨k - 1, by omega⟩
    have en : ws.drop i = [] := List.drop_eq_nil_of_le (by omega)
    simp only [plan_Check.l0]
    rw [if_neg (by omega), en, many_f k F _ ws hn (by omega)]
    simp only [Option.bind_some, firstBad]
    by_cases h : 1 < cnt (-1) ws
    · rw [if_pos (by omega), if_pos h]
    · rw [if_neg (by omega), if_neg h]
      have := check_l1 F ws hn N hN N.toNat k 0 (by omega) (by omega)
      simpa using this
  | succ d ih =>
    intro k i e hi he1 he2 hk
    obtain ⟨k, rfl⟩ : ∃ m, k = m + 1 := ⟨k - 1, by omega⟩
    have hlt : i < ws.length := by omega
    rw [drop_at ws i hlt]
    generalize hx : rd_T36 ws (i : Int) = x
    simp only [plan_Check.l0, firstBad]
    rw [if_pos (by omega), if_pos (by omega), if_pos (by omega), hx]
    by_cases b : bad F N e x
    · rw [if_pos b]
      unfold bad at b
      by_cases b1 : x.f0 < -1
      · rw [if_pos b1]
      rw [if_neg b1]
      by_cases b2 : N ≤ x.f0
      · rw [if_pos b2]
      rw [if_neg b2]
      by_cases b3 : x.f2 < 1
      · rw [if_pos b3]
      rw [if_neg b3]
      by_cases b4 : x.f1 < e
      · rw [if_pos b4]
      rw [if_neg b4]
      by_cases b5 : x.f1 > F
      · rw [if_pos b5]
      rw [if_neg b5, if_pos (by unfold wrap64; omega)]
    · rw [if_neg b]
      unfold bad at b
      rw [if_neg (by omega), if_neg (by omega), if_neg (by omega), if_neg (by omega), if_neg (by omega), if_neg (by unfold wrap64; omega), w1 hlt hn,
        show wrap64 (x.f1 + x.f2) = x.f1 + x.f2 from by unfold wrap64; omega]
      exact ih k (i + 1) (x.f1 + x.f2) (by omega) (by omega) (by omega) (by omega)

theorem check_f (F : Int) (ws : List S36) (hn : ws.length ≤ maxLen) (N : Int) (k : Nat) (hk : 2 * ws.length + 14 < k) : plan_Check.f k F ws N = some (checkV F ws N) := by
  obtain ⟨k, rfl⟩ : ∃ m, k = m + 1 := ⟨k - 1, by omega⟩
  unfold plan_Check.f checkV
  by_cases h1 : N < 1
  · rw [if_pos h1, if_pos (.inl h1)]; simp [plan_Check.j0]
  · rw [if_neg h1]
    by_cases h2 : 8 < N
    · rw [if_pos (.inr h2)]; simp [plan_Check.j0, h2]
    · rw [if_neg (by omega)]
      simp only [plan_Check.j0, decide_eq_true_eq]
      rw [if_neg (by omega)]
      by_cases g : F < 1 ∨ 65536 < F ∨ ws.length < 1 ∨ 32 < ws.length
      · rw [if_pos g]
        by_cases g1 : F < 1
        · rw [if_pos g1]
        rw [if_neg g1]
        by_cases g2 : F > 65536
        · rw [if_pos g2]
        rw [if_neg g2]
        by_cases g3 : (ws.length : Int) < 1
        · rw [if_pos g3]
        rw [if_neg g3, if_pos (by omega)]
      · rw [if_neg g, if_neg (by omega), if_neg (by omega), if_neg (by omega), if_neg (by omega)]
        have := check_l0 F ws hn N (by omega) (by omega) (by omega) (by omega) ws.length k 0 0 (by omega) (by omega) (by omega) (by omega)
        simpa using this

/-! ### the contracts, in these words -/
theorem many_any (F : Int) (A : Option Addr) (c : Nat) (ws : List S36) (p : Int) (w : World) (hr : Kd.C k36 w A ws.length ws) (hc : ws.length ≤ c) (hn : ws.length ≤ maxLen) :
    Calls Try.prog 21 #[.agg #[.int .i64 F, .slice A ws.length c], .int .i64 p] w fun e w' => e = .returned (.int .i64 (cnt p ws : Int)) ∧ Below w.heap.size w w' :=
  plan_many.calls (ws.length + 1) F A c ws p _ w hr hc (many_f _ F p ws hn (by omega))
theorem check_any (F : Int) (A : Option Addr) (c : Nat) (ws : List S36) (N : Int) (w : World) (hr : Kd.C k36 w A ws.length ws) (hc : ws.length ≤ c) (hn : ws.length ≤ maxLen) :
    Calls Try.prog 8 #[.agg #[.int .i64 F, .slice A ws.length c], .int .i64 N] w fun e w' => e = .returned (.tuple #[.int .i64 (checkV F ws N).1, .int .i64 (checkV F ws N).2]) ∧ Below w.heap.size w w' :=
  plan_Check.calls (2 * ws.length + 15) F A c ws N _ _ w hr hc (check_f F ws hn N _ (by omega))

end Go.Proofs.Ytdajedggennljaa.PPlanAnswers
