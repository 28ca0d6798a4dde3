/-
  Plain law of layer 21: windows of a plan that may be; and the contract of plan.Starts over all its arguments.
-/
import Derived.Test.YtdajedggennljaaPlanAnswersPlC
namespace Go.Proofs.Ytdajedggennljaa.PPlanAnswers
open Go.RowKit Go.Shelf Go.Proofs.YtdajedggennljaaW.PrintWords Go.Proofs.YtdajedggennljaaW.PrintLast Go.Proofs.YtdajedggennljaaW.PrintMore

/-- windows one behind the other, from the tick e on, in a frame -/
def Chain (F N : Int) : Int → List S36 → Prop
  | e, [] => e ≤ F
  | e, x :: r => -1 ≤ x.f0 ∧ x.f0 < N ∧ 1 ≤ x.f2 ∧ e ≤ x.f1 ∧ x.f1 + x.f2 ≤ F ∧ Chain F N (x.f1 + x.f2) r
theorem chain_of (F N : Int) (ws : List S36) : ∀ (e i : Int), e ≤ F → firstBad F N e i ws = none → Chain F N e ws := by
  induction ws with
  | nil => intro e i he _; exact he
  | cons x r ih =>
    intro e i he h
    simp only [firstBad] at h
    by_cases hb : bad F N e x
    · rw [if_pos hb] at h; cases h
    · rw [if_neg hb] at h
      unfold bad at hb
      exact ⟨by omega, by omega, by omega, by omega, by omega, ih _ _ (by omega) h⟩
/-- the m-th window -/
def win (ws : List S36) (m : Nat) : S36 := ws.getD m z36
theorem win_zero (x : S36) (r : List S36) : win (x :: r) 0 = x := rfl
theorem win_succ (x : S36) (r : List S36) (m : Nat) : win (x :: r) (m + 1) = win r m := rfl
theorem rd_win (ws : List S36) (m : Nat) : rd_T36 ws (m : Int) = win ws m := by simp [rd_T36, win]
theorem chain_at {F N : Int} {ws : List S36} : ∀ {e : Int} {m : Nat}, Chain F N e ws → m < ws.length →
    -1 ≤ (win ws m).f0 ∧ (win ws m).f0 < N ∧ 1 ≤ (win ws m).f2 ∧ e ≤ (win ws m).f1 ∧ (win ws m).f1 + (win ws m).f2 ≤ F := by
  induction ws with
  | nil => intro e m _ h; simp at h
  | cons x r ih =>
    intro e m hc h
    obtain ⟨c1, c2, c3, c4, c5, c6⟩ := hc
    cases m with
    | zero => exact ⟨c1, c2, c3, c4, c5⟩
    | succ m =>
      rw [win_succ]
      have := ih c6 (m := m) (by simpa using h)
      exact ⟨this.1, this.2.1, this.2.2.1, by omega, this.2.2.2.2⟩
theorem chain_lt {F N : Int} {ws : List S36} : ∀ {e : Int} {m m' : Nat}, Chain F N e ws → m < m' → m' < ws.length → (win ws m).f1 + (win ws m).f2 ≤ (win ws m').f1 := by
  induction ws with
  | nil => intro e m m' _ _ h; simp at h
  | cons x r ih =>
    intro e m m' hc hm h
    obtain ⟨c1, c2, c3, c4, c5, c6⟩ := hc
    cases m' with
    | zero => omega
    | succ m' =>
      rw [win_succ]
      have hm' : m' < r.length := by simpa using h
      cases m with
      | zero => rw [win_zero]; exact (chain_at c6 hm').2.2.2.1
      | succ m => rw [win_succ]; exact ih c6 (by omega) hm'
theorem in_win {F N e : Int} {ws : List S36} {x : Int} {m : Nat} (hc : Chain F N e ws) (he : 0 ≤ e) (hF : F ≤ 65536) (hm : m < ws.length) (h0 : 0 ≤ x) (hx : x ≤ 65536) : inW x (win ws m) = true ↔ (win ws m).f1 ≤ x ∧ x < (win ws m).f1 + (win ws m).f2 := by
  have h := chain_at hc hm
  simp only [inW, Bool.and_eq_true, decide_eq_true_eq]
  have : wrap64 (x - (win ws m).f1) = x - (win ws m).f1 := IntWalk.wrap64_in _ (by omega)
  rw [this]; omega
/-- where the search ends -/
theorem idx_spec (x : Int) (ws : List S36) : ∀ (i : Nat), (idxFrom x (i : Int) ws = -1 ∧ ∀ m, m < ws.length → inW x (win ws m) = false) ∨
    ∃ m, m < ws.length ∧ idxFrom x (i : Int) ws = ((i + m : Nat) : Int) ∧ inW x (win ws m) = true := by
  induction ws with
  | nil => intro i; left; exact ⟨rfl, fun m h => by simp at h⟩
  | cons v r ih =>
    intro i
    simp only [idxFrom]
    by_cases hv : inW x v = true
    · right; exact ⟨0, by simp, by rw [if_pos hv]; rfl, hv⟩
    · rw [if_neg hv]
      rcases ih (i + 1) with ⟨h1, h2⟩ | ⟨m, h1, h2, h3⟩
      · left
        refine ⟨by rw [← h1]; congr 1, fun m hm => ?_⟩
        cases m with
        | zero => show inW x v = false; simpa using hv
        | succ m => rw [win_succ]; exact h2 m (by simpa using hm)
      · right
        refine ⟨m + 1, by simpa using h1, ?_, by rw [win_succ]; exact h3⟩
        rw [show ((i : Int) + 1) = ((i + 1 : Nat) : Int) from rfl, h2]; congr 1; omega
theorem idx_in {F N : Int} {ws : List S36} {x : Int} {m : Nat} (hc : Chain F N 0 ws) (hF : F ≤ 65536) (hm : m < ws.length) (h0 : 0 ≤ x) (hx : x ≤ 65536) (h : (win ws m).f1 ≤ x ∧ x < (win ws m).f1 + (win ws m).f2) : idxFrom x 0 ws = (m : Int) := by
  rcases idx_spec x ws 0 with ⟨_, h2⟩ | ⟨m', h1, h2, h3⟩
  · have := h2 m hm
    rw [(in_win hc (by omega) hF hm h0 hx).2 h] at this; cases this
  · have h3' := (in_win hc (by omega) hF h1 h0 hx).1 h3
    have : m' = m := by
      rcases Nat.lt_trichotomy m' m with hl | hl | hl
      · have := chain_lt hc hl hm; omega
      · exact hl
      · have := chain_lt hc hl h1; omega
    subst this
    simpa using h2
theorem idx_out {F N : Int} {ws : List S36} {x : Int} {m : Nat} (hc : Chain F N 0 ws) (hF : F ≤ 65536) (hm : m < ws.length) (h0 : 0 ≤ x) (hx : x ≤ 65536) (h : ¬ ((win ws m).f1 ≤ x ∧ x < (win ws m).f1 + (win ws m).f2)) : ¬ idxFrom x 0 ws = (m : Int) := by
  intro he
  rcases idx_spec x ws 0 with ⟨h1, _⟩ | ⟨m', h1, h2, h3⟩
  · rw [show ((0 : Nat) : Int) = 0 from rfl] at h1; omega
  · rw [show ((0 : Nat) : Int) = 0 from rfl] at h2
    have : m' = m := by omega
    subst this
    exact h ((in_win hc (by omega) hF hm h0 hx).1 h3)

/-- the j-th window of a partition -/
theorem st_pos (p : Int) (ws : List S36) : ∀ (k j : Nat), j < cnt p ws → ∃ m, m < ws.length ∧ (win ws m).f0 = p ∧ ((sq p k ws).getD j (0, 0)).2 = (win ws m).f1 ∧ cnt p (ws.take m) = j := by
  induction ws with
  | nil => intro k j h; simp [cnt] at h
  | cons x r ih =>
    intro k j h
    simp only [sq, cnt] at h ⊢
    by_cases hx : x.f0 = p
    · rw [if_pos hx] at h ⊢
      cases j with
      | zero => exact ⟨0, by simp, hx, rfl, rfl⟩
      | succ j =>
        obtain ⟨m, h1, h2, h3, h4⟩ := ih (k + 1) j (by omega)
        exact ⟨m + 1, by simpa using h1, h2, by rw [List.getD_cons_succ]; exact h3, by simp only [List.take_succ_cons, cnt]; rw [if_pos hx, h4]; omega⟩
    · rw [if_neg hx] at h ⊢
      obtain ⟨m, h1, h2, h3, h4⟩ := ih k j (by omega)
      exact ⟨m + 1, by simpa using h1, h2, h3, by simp only [List.take_succ_cons, cnt]; rw [if_neg hx, h4]; omega⟩
theorem st_at {p : Int} {ws : List S36} {j : Nat} (h : j < cnt p ws) : ∃ m, m < ws.length ∧ (win ws m).f0 = p ∧ st p ws j = (win ws m).f1 ∧ cnt p (ws.take m) = j := st_pos p ws 0 j h
theorem cnt_mono (p : Int) (ws : List S36) {a b : Nat} (h : a ≤ b) : cnt p (ws.take a) ≤ cnt p (ws.take b) := by
  have := cnt_take_le p (ws.take b) a
  rwa [List.take_take, Nat.min_eq_left h] at this
theorem st_order {p : Int} {ws : List S36} {m m' : Nat} (h : cnt p (ws.take m) < cnt p (ws.take m')) : m < m' := by
  rcases Nat.lt_or_ge m m' with hl | hl
  · exact hl
  · have := cnt_mono p ws hl; omega

theorem none_of (ws : List S36) : ∀ (d p : Nat), noneOf ws d p = false → ∀ q : Nat, p ≤ q → q < p + d → 0 < cnt (q : Int) ws := by
  intro d
  induction d with
  | zero => intro p _ q h1 h2; omega
  | succ d ih =>
    intro p h q h1 h2
    simp only [noneOf] at h
    by_cases hc : cnt (p : Int) ws = 0
    · rw [if_pos hc] at h; cases h
    · rw [if_neg hc] at h
      rcases Nat.eq_or_lt_of_le h1 with rfl | hl
      · omega
      · exact ih (p + 1) h q hl (by omega)

/-- what a plan that may be has -/
structure Good (F : Int) (ws : List S36) (N : Int) : Prop where
  n1 : 1 ≤ N
  n2 : N ≤ 8
  f1 : 1 ≤ F
  f2 : F ≤ 65536
  l1 : 1 ≤ ws.length
  l2 : ws.length ≤ 32
  chain : Chain F N 0 ws
  eng : cnt (-1) ws ≤ 1
  has : ∀ p : Int, 0 ≤ p → p < N → 0 < cnt p ws
  is : checkV F ws N = (0, 0)
theorem good_of {F : Int} {ws : List S36} {N : Int} (h : (checkV F ws N).2 = 0) : Good F ws N := by
  obtain ⟨a1, a2, a3, a4, a5, a6, a7, a8, a9, a10⟩ := check_ok h
  refine ⟨a1, a2, a3, a4, a5, a6, chain_of F N ws 0 0 (by omega) a7, a8, fun p h1 h2 => ?_, a10⟩
  obtain ⟨q, rfl⟩ := Int.eq_ofNat_of_zero_le h1
  exact none_of ws _ 0 a9 q (by omega) (by omega)
theorem Good.st {F : Int} {ws : List S36} {N p : Int} (g : Good F ws N) : ∀ j, j < cnt p ws → 0 ≤ st p ws j ∧ st p ws j < F := by
  intro j hj
  obtain ⟨m, h1, _, h3, _⟩ := st_at hj
  have := chain_at g.chain h1
  rw [h3]; omega

/-- plan.Starts -/
def startsV (F : Int) (ws : List S36) (N p k : Int) : Int × Int :=
  if ¬ (checkV F ws N).2 = 0 then (0, (checkV F ws N).2) else if p < 0 ∨ N ≤ p ∨ k < 0 ∨ 1048576 < k then (0, 1)
  else (k / (cnt p ws : Int) * F + st p ws (k.toNat % cnt p ws), 0)

theorem bodyPostM_ret {F : Fence} {n : Nat} {P : Program} {fn : Func} {R : Ending → World → Prop} {a : Act} {w : World} {v : Value}
    (hr : (results fn a.tmps).run P w = .ok v w) (hd : a.defers = []) (hR : R (.returned v) w) : bodyPostM F n P fn R .ret a w := by
  show LeavesInM F n P fn a.tmps R a.defers .returning w
  rw [hd]; exact ⟨v, hr, hR⟩

theorem starts_err (F : Int) (A : Option Addr) (c : Nat) (ws : List S36) (N p k a e : Int) (w : World) (hr : Kd.C k36 w A ws.length ws) (hc : ws.length ≤ c) (hv : checkV F ws N = (a, e)) (he : ¬ e = 0) :
    Calls Try.prog 9 #[.agg #[.int .i64 F, .slice A ws.length c], .int .i64 N, .int .i64 p, .int .i64 k] w fun x w' => x = .returned (.tuple #[.int .i64 0, .int .i64 e]) ∧ Below w.heap.size w w' := by
  have HR := Lib.hid hr
  have HC := Lib.hid hc
  have HV := Lib.hid hv
  clear hr hc hv
  refine (callsIn_wide (n := 5)).1 ?_
  refine callsIn_of_wp_marks Try.func9 rfl trivial ?_ rfl
  simp only [Try.ntmps9, List.size_toArray, List.length_cons, List.length_nil, Nat.reduceAdd, Nat.reduceSub, Array.replicate_succ, Array.replicate_zero, List.push_toArray, List.append_toArray, List.nil_append, List.cons_append]
  gi_wp2_with fail
  refine ⟨trivial, ?_⟩
  refine (callsIn_wide.2 (check_at _ (Kd.C_alloc (Kd.C_alloc (Kd.C_alloc HR.out _) _) _) HC.out HV.out)).mono ?_
  rintro e w1 ⟨rfl, hb⟩
  obtain ⟨hc1, hf1⟩ := bcell hb
  have hz1 : w.heap.size + 2 < w1.heap.size := by have := hb.size; simp at this; omega
  have hbw : Below w.heap.size w w1 := bnext (((bnew _ _).alloc (by simp) _).alloc (by simp; omega) _) hb
  have cT : w1.cell? ⟨w.heap.size + 1 + 1, 0, none⟩ = some (.int .i64 0) := by rw [hc1 _ _ (by simp)]; simp [go_sem]
  have fT : w1.frozen? ⟨w.heap.size + 1 + 1, 0, none⟩ = false := by rw [hf1 _ _ (by simp)]; simp [go_sem]
  clear hb hc1 hf1
  gi_wp2
  have hc5 := World.cell?_setCell_same' w1 ⟨w.heap.size + 1 + 1, 0, none⟩ (.int .i64 0) (by rw [cT]; rfl)
  refine bodyPostM_ret (v := .tuple #[.int .i64 0, .int .i64 _]) ?_ rfl ⟨rfl, hbw.setCell (p := ⟨w.heap.size + 1 + 1, 0, none⟩) (by simp only; omega) _⟩
  simp [results, Try.f9, go_sem, hc5]

theorem starts_out (F : Int) (A : Option Addr) (c : Nat) (ws : List S36) (N p k a : Int) (w : World) (hr : Kd.C k36 w A ws.length ws) (hc : ws.length ≤ c) (hv : checkV F ws N = (a, 0)) (hk : p < 0 ∨ N ≤ p ∨ k < 0 ∨ 1048576 < k) :
    Calls Try.prog 9 #[.agg #[.int .i64 F, .slice A ws.length c], .int .i64 N, .int .i64 p, .int .i64 k] w fun x w' => x = .returned (.tuple #[.int .i64 0, .int .i64 1]) ∧ Below w.heap.size w w' := by
  have HR := Lib.hid hr
  have HC := Lib.hid hc
  have HV := Lib.hid hv
  clear hr hc hv
  refine (callsIn_wide (n := 5)).1 ?_
  refine callsIn_of_wp_marks Try.func9 rfl trivial ?_ rfl
  simp only [Try.ntmps9, List.size_toArray, List.length_cons, List.length_nil, Nat.reduceAdd, Nat.reduceSub, Array.replicate_succ, Array.replicate_zero, List.push_toArray, List.append_toArray, List.nil_append, List.cons_append]
  gi_wp2_with fail
  refine ⟨trivial, ?_⟩
  refine (callsIn_wide.2 (check_at _ (Kd.C_alloc (Kd.C_alloc (Kd.C_alloc HR.out _) _) _) HC.out HV.out)).mono ?_
  rintro e w1 ⟨rfl, hb⟩
  obtain ⟨hc1, hf1⟩ := bcell hb
  have hz1 : w.heap.size + 2 < w1.heap.size := by have := hb.size; simp at this; omega
  have hbw : Below w.heap.size w w1 := bnext (((bnew _ _).alloc (by simp) _).alloc (by simp; omega) _) hb
  have cK : w1.cell? ⟨w.heap.size + 1, 0, none⟩ = some (.int .i64 k) := by rw [hc1 _ _ (by simp)]; simp [go_sem]
  have cT : w1.cell? ⟨w.heap.size + 1 + 1, 0, none⟩ = some (.int .i64 0) := by rw [hc1 _ _ (by simp)]; simp [go_sem]
  have fT : w1.frozen? ⟨w.heap.size + 1 + 1, 0, none⟩ = false := by rw [hf1 _ _ (by simp)]; simp [go_sem]
  clear hb hc1 hf1
  have hc5 := World.cell?_setCell_same' w1 ⟨w.heap.size + 1 + 1, 0, none⟩ (.int .i64 0) (by rw [cT]; rfl)
  have fin : ∀ (T : Array Value), T[10]? = some (.pointer (some ⟨w.heap.size + 1 + 1, 0, none⟩)) → True := fun _ _ => trivial
  by_cases h1 : p < 0
  · gi_wp2
    refine bodyPostM_ret (v := .tuple #[.int .i64 0, .int .i64 1]) ?_ rfl ⟨rfl, hbw.setCell (p := ⟨w.heap.size + 1 + 1, 0, none⟩) (by simp only; omega) _⟩
    simp [results, Try.f9, go_sem, hc5]
  by_cases h2 : N ≤ p
  · gi_wp2
    refine bodyPostM_ret (v := .tuple #[.int .i64 0, .int .i64 1]) ?_ rfl ⟨rfl, hbw.setCell (p := ⟨w.heap.size + 1 + 1, 0, none⟩) (by simp only; omega) _⟩
    simp [results, Try.f9, go_sem, hc5]
  by_cases h3 : k < 0
  · gi_wp2
    refine bodyPostM_ret (v := .tuple #[.int .i64 0, .int .i64 1]) ?_ rfl ⟨rfl, hbw.setCell (p := ⟨w.heap.size + 1 + 1, 0, none⟩) (by simp only; omega) _⟩
    simp [results, Try.f9, go_sem, hc5]
  · have h4 : 1048576 < k := by omega
    gi_wp2
    refine bodyPostM_ret (v := .tuple #[.int .i64 0, .int .i64 1]) ?_ rfl ⟨rfl, hbw.setCell (p := ⟨w.heap.size + 1 + 1, 0, none⟩) (by simp only; omega) _⟩
    simp [results, Try.f9, go_sem, hc5]

/-- **plan.Starts**, over all its arguments -/
theorem starts_all (F : Int) (A : Option Addr) (c : Nat) (ws : List S36) (N p k : Int) (w : World) (hr : Kd.C k36 w A ws.length ws) (hc : ws.length ≤ c) :
    Calls Try.prog 9 #[.agg #[.int .i64 F, .slice A ws.length c], .int .i64 N, .int .i64 p, .int .i64 k] w fun x w' => x = .returned (.tuple #[.int .i64 (startsV F ws N p k).1, .int .i64 (startsV F ws N p k).2]) ∧ Below w.heap.size w w' := by
  by_cases he : (checkV F ws N).2 = 0
  · have g := good_of he
    by_cases hk : p < 0 ∨ N ≤ p ∨ k < 0 ∨ 1048576 < k
    · have hs : startsV F ws N p k = (0, 1) := by simp [startsV, he, hk]
      rw [hs]
      exact starts_out F A c ws N p k 0 w hr hc g.is hk
    · have hs : startsV F ws N p k = (k / (cnt p ws : Int) * F + st p ws (k.toNat % cnt p ws), 0) := by simp [startsV, he, hk]
      rw [hs]
      exact starts_try F A c (cnt p ws) ws N p k 0 _ w hr hc g.is g.f1 g.f2 (by omega) (by omega) (by omega) (by omega) (g.has p (by omega) (by omega)) (fun j hj => by have := g.st (p := p) j hj; omega) rfl rfl
  · have hs : startsV F ws N p k = (0, (checkV F ws N).2) := by simp [startsV, he]
    rw [hs]
    exact starts_err F A c ws N p k _ _ w hr hc rfl he

end Go.Proofs.Ytdajedggennljaa.PPlanAnswers
