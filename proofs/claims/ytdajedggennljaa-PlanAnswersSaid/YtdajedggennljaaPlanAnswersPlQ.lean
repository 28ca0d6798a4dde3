/-
  Plain law of layer 21: the document's gaps and shares; sameness; a copy.
-/
import Derived.Test.YtdajedggennljaaPlanAnswersPlP
namespace Go.Proofs.Ytdajedggennljaa.PPlanAnswers
open Go.RowKit Go.Shelf Go.Proofs.YtdajedggennljaaW.PrintWords Go.Proofs.YtdajedggennljaaW.PrintLast Go.Proofs.YtdajedggennljaaW.PrintMore

theorem rgaps_l0 (F : Int) (ws : List S36) (hl : ws.length ≤ 32) (hF : 1 ≤ F) (hF2 : F ≤ 65536) (hb : ∀ m, m < ws.length → 0 ≤ (win ws m).f1 ∧ 0 ≤ (win ws m).f2 ∧ (win ws m).f1 + (win ws m).f2 ≤ 65536) (d : Nat) : ∀ (k i : Nat) (e : Int) (out : List S36), i + d = ws.length → 0 ≤ e → e ≤ 65536 → out.length ≤ i → 2 * d + 4 < k →
    capstanref21_Gaps.l0 k out e (i : Int) F ws = some (out ++ gp e (ws.drop i ++ [⟨0, F, 0⟩]), 0) := by
  induction d with
  | zero =>
    intro k i e out hi he0 he1 ho hk
    obtain ⟨k, rfl⟩ : ∃ m, k = m + 3 := ⟨k - 3, by omega⟩
    have en : ws.drop i = [] := List.drop_eq_nil_of_le (by omega)
    have hi1 : wrap64 ((i : Int) + 1) = ((i + 1 : Nat) : Int) := by rw [IntWalk.wrap64_in _ (by omega)]; rfl
    rw [en, List.nil_append]
    simp only [gp, List.append_nil]
    simp only [capstanref21_Gaps.l0, capstanref21_Gaps.j1]
    rw [if_pos (by omega), if_neg (by omega)]
    by_cases h : e < F
    · rw [if_pos (by omega), if_pos (by omega), if_pos h]
      simp only [Option.bind_some]
      rw [if_neg (by omega), hi1, if_neg (by omega), show wrap64 (F - e) = F - e from IntWalk.wrap64_in _ (by omega)]
    · rw [if_neg (by omega), if_neg (by omega), if_neg h, hi1, if_neg (by omega), List.append_nil]
  | succ d ih =>
    intro k i e out hi he0 he1 ho hk
    obtain ⟨k, rfl⟩ : ∃ m, k = m + 2 := ⟨k - 2, by omega⟩
    have hlt : i < ws.length := by omega
    have hw := hb i hlt
    rw [← rd_win] at hw
    rw [drop_at ws i hlt]
    generalize hv : rd_T36 ws (i : Int) = v at hw
    simp only [List.cons_append, gp]
    simp only [capstanref21_Gaps.l0, capstanref21_Gaps.j1]
    rw [if_pos (by omega), if_pos (by omega), if_pos (by omega), hv, w1 hlt (by unfold maxLen; omega), show wrap64 (v.f1 + v.f2) = v.f1 + v.f2 from IntWalk.wrap64_in _ (by omega)]
    by_cases h : e < v.f1
    · rw [if_pos (by omega), if_pos (by omega), if_pos h]
      simp only [Option.bind_some]
      rw [if_pos (by omega), if_pos (by omega), show wrap64 (v.f1 - e) = v.f1 - e from IntWalk.wrap64_in _ (by omega), ih k (i + 1) _ _ (by omega) (by omega) (by omega) (by simp; omega) (by omega)]
      simp
    · rw [if_neg (by omega), if_pos (by omega), if_pos (by omega), if_neg h, ih k (i + 1) _ _ (by omega) (by omega) (by omega) (by omega) (by omega)]
      simp
/-- plan.Gaps -/
def gapsV (F : Int) (ws : List S36) (N : Int) : List S36 × Int := if (checkV F ws N).2 = 0 then (gp 0 (ws ++ [⟨0, F, 0⟩]), 0) else ([], (checkV F ws N).2)
theorem rgaps_f (F : Int) (ws : List S36) (N : Int) (k : Nat) (hk : 90 < k) : capstanref21_Gaps.f k F ws N = some (gapsV F ws N) := by
  unfold capstanref21_Gaps.f gapsV
  rw [rcheck_f F ws N k hk]
  simp only [Option.bind_some]
  by_cases he : (checkV F ws N).2 = 0
  · have g := good_of he
    have hl := g.l2
    rw [if_pos he, if_pos he]
    have := rgaps_l0 F ws hl g.f1 g.f2 g.wb ws.length k 0 0 [] (by omega) (by omega) (by omega) (by simp) (by omega)
    simp only [List.drop_zero, List.nil_append, Int.natCast_zero] at this
    exact this
  · rw [if_neg he, if_neg he]

theorem pick_lens (p : Int) (ws : List S36) : lens (pick p ws) = share p ws := by
  induction ws with
  | nil => rfl
  | cons x r ih => simp only [pick, share]; split <;> simp only [lens, ih]; omega
theorem pick_mem {p : Int} {ws : List S36} {x : S36} (h : x ∈ pick p ws) : x ∈ ws := by
  induction ws with
  | nil => simp [pick] at h
  | cons y r ih =>
    simp only [pick] at h
    split at h
    · rcases List.mem_cons.1 h with rfl | h
      · simp
      · simp [ih h]
    · simp [ih h]
theorem rshare_l0 (l : List S36) (hl : l.length ≤ 32) (hb : ∀ x ∈ l, 0 ≤ x.f2 ∧ x.f2 ≤ 65536) (d : Nat) : ∀ (k i : Nat) (s : Int), i + d = l.length → 0 ≤ s → s ≤ i * 65536 → d < k →
    capstanref21_Share.l0 k s l (i : Int) = some (s + lens (l.drop i), 0) := by
  induction d with
  | zero =>
    intro k i s hi _ _ hk
    obtain ⟨k, rfl⟩ : ∃ m, k = m + 1 := ⟨k - 1, by omega⟩
    have e : l.drop i = [] := List.drop_eq_nil_of_le (by omega)
    simp only [capstanref21_Share.l0]
    rw [if_neg (by omega), e]; simp [lens]
  | succ d ih =>
    intro k i s hi h0 h1 hk
    obtain ⟨k, rfl⟩ : ∃ m, k = m + 1 := ⟨k - 1, by omega⟩
    have hlt : i < l.length := by omega
    have hw := hb _ (win_mem hlt)
    rw [← rd_win] at hw
    rw [drop_at l i hlt]
    generalize hv : rd_T36 l (i : Int) = v at hw
    simp only [capstanref21_Share.l0, lens]
    rw [if_pos (by omega), if_pos (by omega), hv, w1 hlt (by unfold maxLen; omega), show wrap64 (s + v.f2) = s + v.f2 from IntWalk.wrap64_in _ (by omega), ih k (i + 1) _ (by omega) (by omega) (by omega) (by omega)]
    congr 2; omega
theorem rshare_f (F : Int) (ws : List S36) (N p : Int) (k : Nat) (hk : 90 < k) : capstanref21_Share.f k F ws N p = some (shareV F ws N p) := by
  obtain ⟨k, rfl⟩ : ∃ m, k = m + 1 := ⟨k - 1, by omega⟩
  unfold capstanref21_Share.f shareV
  rw [rcheck_f F ws N _ hk]
  simp only [Option.bind_some]
  by_cases he : (checkV F ws N).2 = 0
  · have g := good_of he
    have hl := g.l2
    have hpl : (pick p ws).length ≤ 32 := by rw [pick_length]; have := cnt_le p ws; omega
    have key := rshare_l0 (pick p ws) hpl (fun x hx => by
      obtain ⟨m, hm, hx2⟩ := List.getElem_of_mem (pick_mem hx)
      have hw := g.wb m hm
      have e : win ws m = x := by rw [← hx2]; simp [win, List.getD_eq_getElem?_getD, List.getElem?_eq_getElem hm]
      rw [e] at hw; omega) (pick p ws).length k 0 0 (by omega) (by omega) (by omega) (by omega)
    simp only [List.drop_zero, Int.zero_add, Int.natCast_zero] at key
    rw [if_pos he, if_neg (show ¬ ¬ (checkV F ws N).2 = 0 from fun h => h he)]
    by_cases h1 : p < -1
    · rw [if_pos h1, if_pos (.inl h1)]; simp [capstanref21_Share.j0]
    · rw [if_neg h1]
      by_cases h2 : N ≤ p
      · rw [if_pos (.inr h2)]; simp [capstanref21_Share.j0, h2]
      · rw [if_neg (by omega)]
        simp only [capstanref21_Share.j0, decide_eq_true_eq]
        rw [if_neg (by omega), of_f k F p ws hl (by omega)]
        simp only [Option.bind_some]
        rw [key, pick_lens]
  · rw [if_neg he, if_pos he]

theorem same_l0 (a : List S36) (hn : a.length ≤ maxLen) (d : Nat) : ∀ (k i : Nat), i + d = a.length → d < k → capstanlaw21_same.l0 k a a (i : Int) = some true := by
  induction d with
  | zero =>
    intro k i hi hk
    obtain ⟨k, rfl⟩ : ∃ m, k = m + 1 := ⟨k - 1, by omega⟩
    simp only [capstanlaw21_same.l0]
    rw [if_neg (by omega)]
  | succ d ih =>
    intro k i hi hk
    obtain ⟨k, rfl⟩ : ∃ m, k = m + 1 := ⟨k - 1, by omega⟩
    have hlt : i < a.length := by omega
    simp only [capstanlaw21_same.l0]
    rw [if_pos (by omega), if_pos (by omega), if_pos (by omega), w1 hlt hn, ih k (i + 1) (by omega) (by omega)]
    simp
theorem same_f (k : Nat) (a : List S36) (hn : a.length ≤ maxLen) (hk : a.length < k) : capstanlaw21_same.f k a a = some true := by
  unfold capstanlaw21_same.f
  rw [if_pos rfl]
  exact same_l0 a hn a.length k 0 (by omega) hk
theorem copied_f (F : Int) (ws : List S36) (hn : ws.length < 5864062014805) : capstanlaw21_copied.f F ws = some (F, ws) := by
  unfold capstanlaw21_copied.f
  simp only [Option.bind_some, List.length_nil, Nat.zero_add, List.nil_append]
  rw [if_pos hn]

end Go.Proofs.Ytdajedggennljaa.PPlanAnswers
