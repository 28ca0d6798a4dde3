/-
  Plain law of layer 21: shares and gaps together are the frame; a tick is in a window or in just one gap. And plan.Share's contract.
-/
import Derived.Test.YtdajedggennljaaPlanAnswersPlI
import Derived.Test.YtdajedggennljaaPPlanAnswersx6
namespace Go.Proofs.Ytdajedggennljaa.PPlanAnswers
open Go.RowKit Go.Shelf Go.Proofs.YtdajedggennljaaW.PrintWords Go.Proofs.YtdajedggennljaaW.PrintLast Go.Proofs.YtdajedggennljaaW.PrintMore

def share (p : Int) : List S36 → Int
  | [] => 0
  | x :: r => (if x.f0 = p then x.f2 else 0) + share p r
theorem share_l0 (p : Int) (ws : List S36) (hl : ws.length ≤ 32) (hb : ∀ m, m < ws.length → 0 ≤ (win ws m).f2 ∧ (win ws m).f2 ≤ 65536) (d : Nat) : ∀ (k i : Nat) (s : Int), i + d = ws.length → 0 ≤ s → s ≤ i * 65536 → d < k →
    plan_Share.l0 k p s ws (ws.length : Int) (i : Int) = some (s + share p (ws.drop i), 0) := by
  induction d with
  | zero =>
    intro k i s hi _ _ hk
    obtain ⟨k, rfl⟩ : ∃ m, k = m + 1 := ⟨k - 1, by omega⟩
    have e : ws.drop i = [] := List.drop_eq_nil_of_le (by omega)
    simp only [plan_Share.l0]
    rw [if_neg (by omega), e]; simp [share]
  | succ d ih =>
    intro k i s hi h0 h1 hk
    obtain ⟨k, rfl⟩ : ∃ m, k = m + 1 := ⟨k - 1, by omega⟩
    have hlt : i < ws.length := by omega
    have hw := hb i hlt
    rw [drop_at ws i hlt]
    rw [← rd_win] at hw
    generalize hx : rd_T36 ws (i : Int) = x at hw
    simp only [plan_Share.l0, share]
    rw [if_pos (by omega), if_pos (by omega), if_pos (by omega), hx, w1 hlt (by unfold maxLen; omega)]
    by_cases h : x.f0 = p
    · rw [if_pos h, if_pos h, show wrap64 (s + x.f2) = s + x.f2 from IntWalk.wrap64_in _ (by omega), ih k (i + 1) _ (by omega) (by omega) (by omega) (by omega)]
      congr 2; omega
    · rw [if_neg h, if_neg h, ih k (i + 1) _ (by omega) (by omega) (by omega) (by omega)]
      congr 2; omega
/-- plan.Share -/
def shareV (F : Int) (ws : List S36) (N p : Int) : Int × Int :=
  if ¬ (checkV F ws N).2 = 0 then (0, (checkV F ws N).2) else if p < -1 ∨ N ≤ p then (0, 1) else (share p ws, 0)
theorem Good.len {F : Int} {ws : List S36} {N : Int} (g : Good F ws N) : ∀ m, m < ws.length → 0 ≤ (win ws m).f2 ∧ (win ws m).f2 ≤ 65536 := fun m hm => by
  have := chain_at g.chain hm
  have := g.f2
  omega
theorem share_f (k : Nat) (F : Int) (ws : List S36) (N p : Int) (hn : ws.length ≤ maxLen) (hk : 2 * ws.length + 18 < k) : plan_Share.f k F ws N p = some (shareV F ws N p) := by
  obtain ⟨k, rfl⟩ : ∃ m, k = m + 1 := ⟨k - 1, by omega⟩
  unfold plan_Share.f shareV
  rw [check_f F ws hn N _ (by omega)]
  simp only [Option.bind_some]
  by_cases he : (checkV F ws N).2 = 0
  · have g := good_of he
    have hl := g.l2
    have key := share_l0 p ws hl g.len ws.length k 0 0 (by omega) (by omega) (by omega) (by omega)
    simp only [List.drop_zero, Int.zero_add, Int.natCast_zero] at key
    rw [if_pos he, if_neg (show ¬ ¬ (checkV F ws N).2 = 0 from fun h => h he)]
    by_cases h1 : p < -1
    · rw [if_pos h1, if_pos (.inl h1)]; simp [plan_Share.j0]
    · rw [if_neg h1]
      by_cases h2 : N ≤ p
      · rw [if_pos (.inr h2)]; simp [plan_Share.j0, h2]
      · rw [if_neg (by omega)]
        simp only [plan_Share.j0, decide_eq_true_eq]
        rw [if_neg (by omega)]
        exact key
  · rw [if_neg he, if_pos he]
theorem share_any (F : Int) (A : Option Addr) (c : Nat) (ws : List S36) (N p : Int) (w : World) (hr : Kd.C k36 w A ws.length ws) (hc : ws.length ≤ c) :
    Calls Try.prog 18 #[.agg #[.int .i64 F, .slice A ws.length c], .int .i64 N, .int .i64 p] w fun e w' => e = .returned (.tuple #[.int .i64 (shareV F ws N p).1, .int .i64 (shareV F ws N p).2]) ∧ Below w.heap.size w w' :=
  plan_Share.calls (2 * ws.length + 20) F A c ws N p _ _ w hr hc (share_f _ F ws N p (Kd.C_max hr) (by omega))

/-- shares of the partitions below n, the engineers' with them -/
def shares (ws : List S36) : Nat → Int
  | 0 => 0
  | n + 1 => shares ws n + share ((n : Int) - 1) ws
def lens : List S36 → Int
  | [] => 0
  | x :: r => x.f2 + lens r
theorem shares_cons (x : S36) (r : List S36) : ∀ n : Nat, shares (x :: r) n = (if -1 ≤ x.f0 ∧ x.f0 < (n : Int) - 1 then x.f2 else 0) + shares r n := by
  intro n
  induction n with
  | zero => simp only [shares]; rw [if_neg (by omega)]; rfl
  | succ n ih =>
    simp only [shares, ih, share]
    by_cases h : x.f0 = (n : Int) - 1
    · rw [if_pos h, if_neg (by omega), if_pos (by omega)]; omega
    · rw [if_neg h]
      by_cases h2 : -1 ≤ x.f0 ∧ x.f0 < (n : Int) - 1
      · rw [if_pos h2, if_pos (by omega)]; omega
      · rw [if_neg h2, if_neg (by omega)]; omega
theorem shares_all {F N : Int} {ws : List S36} (n : Nat) (hn : (n : Int) = N + 1) : ∀ {e : Int}, Chain F N e ws → shares ws n = lens ws := by
  induction ws with
  | nil =>
    intro e _
    clear hn
    induction n with
    | zero => rfl
    | succ n ih => simp only [shares, share, ih, lens]; rfl
  | cons x r ih =>
    intro e hc
    obtain ⟨c1, c2, _, _, _, c6⟩ := hc
    rw [shares_cons, ih c6, if_pos (by omega)]; rfl
theorem lens_append (a b : List S36) : lens (a ++ b) = lens a + lens b := by
  induction a with
  | nil => simp [lens]
  | cons x r ih => simp only [List.cons_append, lens, ih]; omega
theorem gaps_all {F N : Int} {ws : List S36} : ∀ {e : Int}, Chain F N e ws → lens ws + lens (gp e (ws ++ [⟨0, F, 0⟩])) = F - e := by
  induction ws with
  | nil =>
    intro e hc
    simp only [Chain] at hc
    simp only [List.nil_append, gp, List.append_nil]
    split <;> simp only [lens] <;> omega
  | cons x r ih =>
    intro e hc
    obtain ⟨_, _, c3, c4, _, c6⟩ := hc
    have := ih c6
    simp only [List.cons_append, gp, lens_append, lens]
    split <;> simp only [lens] <;> omega

/-- in how many of these a tick is -/
def ins (t : Int) : List S36 → Nat
  | [] => 0
  | x :: r => (if x.f1 ≤ t ∧ t < x.f1 + x.f2 then 1 else 0) + ins t r
theorem ins_append (t : Int) (a b : List S36) : ins t (a ++ b) = ins t a + ins t b := by
  induction a with
  | nil => simp [ins]
  | cons x r ih => simp only [List.cons_append, ins, ih]; omega
theorem ins_low {F N : Int} {ws : List S36} {t : Int} : ∀ {e : Int}, Chain F N e ws → t < e → ins t ws = 0 := by
  induction ws with
  | nil => intro e _ _; rfl
  | cons x r ih =>
    intro e hc ht
    obtain ⟨_, _, c3, c4, _, c6⟩ := hc
    simp only [ins]
    rw [if_neg (by omega), ih c6 (by omega)]
theorem ins_one {F N : Int} {ws : List S36} {t : Int} (hF : t < F) : ∀ {e : Int}, Chain F N e ws → ins t (gp e (ws ++ [⟨0, F, 0⟩])) + ins t ws = if t < e then 0 else 1 := by
  induction ws with
  | nil =>
    intro e hc
    simp only [Chain] at hc
    simp only [List.nil_append, gp, List.append_nil, ins]
    split <;> simp only [ins] <;> (repeat' split) <;> omega
  | cons x r ih =>
    intro e hc
    obtain ⟨_, _, c3, c4, c5, c6⟩ := hc
    have h1 := ih c6
    have h2 := fun h => ins_low (t := t) c6 h
    simp only [List.cons_append, gp, ins_append, ins]
    by_cases ht : t < x.f1 + x.f2
    · rw [if_pos ht] at h1
      split <;> simp only [ins] <;> (repeat' split) <;> omega
    · rw [if_neg ht] at h1
      split <;> simp only [ins] <;> (repeat' split) <;> omega
theorem ins_pos (t : Int) (ws : List S36) (m : Nat) (hm : m < ws.length) (h : (win ws m).f1 ≤ t ∧ t < (win ws m).f1 + (win ws m).f2) : 0 < ins t ws := by
  induction ws generalizing m with
  | nil => simp at hm
  | cons x r ih =>
    simp only [ins]
    cases m with
    | zero => rw [win_zero] at h; rw [if_pos h]; omega
    | succ m => rw [win_succ] at h; have := ih m (by simpa using hm) h; omega
theorem ins_none (t : Int) (ws : List S36) (h : ∀ m, m < ws.length → ¬ ((win ws m).f1 ≤ t ∧ t < (win ws m).f1 + (win ws m).f2)) : ins t ws = 0 := by
  induction ws with
  | nil => rfl
  | cons x r ih =>
    simp only [ins]
    have h0 := h 0 (by simp)
    rw [win_zero] at h0
    rw [if_neg h0, ih (fun m hm => by have := h (m + 1) (by simpa using hm); rwa [win_succ] at this)]
/-- a tick of a frame: in a window, and in no gap; or in one gap, and in no window -/
theorem tick_one {F N : Int} {ws : List S36} {t : Int} (g : Good F ws N) (h0 : 0 ≤ t) (h1 : t < F) :
    (0 ≤ idxFrom t 0 ws ∧ ins t (gp 0 (ws ++ [⟨0, F, 0⟩])) = 0) ∨ (idxFrom t 0 ws = -1 ∧ ins t (gp 0 (ws ++ [⟨0, F, 0⟩])) = 1) := by
  have hs := ins_one h1 g.chain
  have hF := g.f2
  rw [if_neg (by omega)] at hs
  rcases idx_spec t ws 0 with ⟨i1, i2⟩ | ⟨m, i1, i2, i3⟩
  · right
    refine ⟨i1, ?_⟩
    have := ins_none t ws (fun m hm h => by
      have := i2 m hm
      rw [(in_win g.chain (by omega) hF hm h0 (by omega)).2 h] at this; cases this)
    omega
  · left
    have hp := ins_pos t ws m i1 ((in_win g.chain (by omega) hF i1 h0 (by omega)).1 i3)
    refine ⟨?_, by omega⟩
    rw [show ((0 : Nat) : Int) = 0 from rfl] at i2
    omega

theorem gp_in {F N : Int} {ws : List S36} : ∀ {e : Int}, 0 ≤ e → Chain F N e ws → ∀ x ∈ gp e (ws ++ [⟨0, F, 0⟩]), 0 ≤ x.f1 ∧ 0 ≤ x.f2 ∧ x.f1 + x.f2 ≤ F := by
  induction ws with
  | nil =>
    intro e he hc x hx
    simp only [List.nil_append, gp, List.append_nil] at hx
    split at hx
    · simp at hx; subst hx; simp only; omega
    · simp at hx
  | cons y r ih =>
    intro e he hc x hx
    obtain ⟨_, _, c3, c4, c5, c6⟩ := hc
    simp only [List.cons_append, gp, List.mem_append] at hx
    rcases hx with hx | hx
    · split at hx
      · simp at hx; subst hx; simp only; omega
      · simp at hx
    · exact ih (by omega) c6 x hx
theorem win_mem {gl : List S36} {m : Nat} (h : m < gl.length) : win gl m ∈ gl := by
  have : win gl m = gl[m] := by simp [win, List.getD_eq_getElem?_getD, List.getElem?_eq_getElem h]
  rw [this]; exact List.getElem_mem h
theorem lens_nn : ∀ (l : List S36), (∀ x ∈ l, 0 ≤ x.f2) → 0 ≤ lens l
  | [], _ => by simp [lens]
  | x :: r, h => by
    have h1 := h x (by simp)
    have h2 := lens_nn r (fun y hy => h y (by simp [hy]))
    simp only [lens]; omega
theorem lens_take {gl : List S36} {m : Nat} (h : m < gl.length) : lens (gl.take (m + 1)) = lens (gl.take m) + (win gl m).f2 := by
  rw [take_at gl m h, lens_append, rd_win]; simp [lens]
theorem lens_part {gl : List S36} (h : ∀ x ∈ gl, 0 ≤ x.f2) (m : Nat) : 0 ≤ lens (gl.take m) ∧ lens (gl.take m) ≤ lens gl := by
  have h1 := lens_nn (gl.take m) (fun x hx => h x (List.mem_of_mem_take hx))
  have h2 := lens_nn (gl.drop m) (fun x hx => h x (List.mem_of_mem_drop hx))
  have h3 := lens_append (gl.take m) (gl.drop m)
  rw [List.take_append_drop] at h3
  omega
theorem ins_take {gl : List S36} {m : Nat} (t : Int) (h : m < gl.length) : ins t (gl.take (m + 1)) = ins t (gl.take m) + (if (win gl m).f1 ≤ t ∧ t < (win gl m).f1 + (win gl m).f2 then 1 else 0) := by
  rw [take_at gl m h, ins_append, rd_win]; simp [ins]
theorem ins_le (t : Int) : ∀ l : List S36, ins t l ≤ l.length
  | [] => by simp [ins]
  | x :: r => by have := ins_le t r; simp only [ins, List.length_cons]; split <;> omega

end Go.Proofs.Ytdajedggennljaa.PPlanAnswers
