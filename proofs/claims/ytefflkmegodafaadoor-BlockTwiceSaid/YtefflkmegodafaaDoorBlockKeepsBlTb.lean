/-
  The walk of layer 12: block.Run as a function of the cells and the calls, out of what Step is.
-/
import Derived.Test.YtefflkmegodafaaDoorBlockKeepsBlTa
import Derived.Laws.CopyOwn
namespace Go.Proofs.YtefflkmegodafaaDoor.PBlockKeeps
open Go.RowKit Go.Proofs.YtefflkmegodafaaDoorW.PrintWords Go.Proofs.YtefflkmegodafaaDoorW.PrintLast Go.Proofs.YtefflkmegodafaaDoorW.PrintMore
attribute [local go_sem] Oper.semAt_some

/-- a call as it lies in memory: when, and a slice that reads as l -/
structure Cl where
  now : Int
  A : Option Addr
  n : Nat
  c : Nat
  l : List Int
def CallsAt (w : World) (A : Option Addr) (n : Nat) (xs : List Cl) : Prop :=
  xs.length = n ∧ (∀ x ∈ xs, ReadsInt w .i64 x.A x.n x.l) ∧ (0 < n → ∃ ad, A = some ad ∧ ∀ (i : Nat) (x : Cl), xs[i]? = some x →
    w.cell? (ad.add (i * 2)) = some (.int .i64 x.now) ∧ w.cell? ⟨(ad.add (i * 2)).block, (ad.add (i * 2)).off + 1, none⟩ = some (.slice x.A x.n x.c))
theorem CallsAt.below {w w' : World} {A : Option Addr} {n : Nat} {xs : List Cl} (h : CallsAt w A n xs) (hb : Below w.heap.size w w') : CallsAt w' A n xs :=
  ⟨h.1, fun x hx => (h.2.1 x hx).below hb, fun hn => by
    obtain ⟨ad, e, hc⟩ := h.2.2 hn
    exact ⟨ad, e, fun i x hx => ⟨pw_cell_below hb (hc i x hx).1, pw_cell_below hb (hc i x hx).2⟩⟩⟩
theorem CallsAt.at_ {w : World} {A : Option Addr} {n : Nat} {xs : List Cl} (h : CallsAt w A n xs) {j : Nat} (hj : j < n) : ∃ ad x, A = some ad ∧ xs.drop j = x :: xs.drop (j + 1) ∧ ReadsInt w .i64 x.A x.n x.l ∧
    w.cell? (ad.add (j * 2)) = some (.int .i64 x.now) ∧ w.cell? ⟨(ad.add (j * 2)).block, (ad.add (j * 2)).off + 1, none⟩ = some (.slice x.A x.n x.c) := by
  obtain ⟨ad, e, hc⟩ := h.2.2 (by omega)
  have hl : j < xs.length := by rw [h.1]; exact hj
  have hg := List.getElem?_eq_getElem hl
  exact ⟨ad, xs[j], e, List.drop_eq_getElem_cons hl, h.2.1 _ (List.getElem_mem hl), hc j _ hg⟩

/-- what is set first, then the cells -/
def over (a l : List Int) : List Int := a ++ l.drop a.length
theorem over_len {a l : List Int} (h : a.length ≤ l.length) : (over a l).length = l.length := by unfold over; simp; omega
noncomputable def stepF (r0 i0 r1 i1 r2 i2 r3 i3 : Nat) (k now : Int) (l : List Int) : List Int × Int := Classical.choose (step_total r0 i0 r1 i1 r2 i2 r3 i3 k now l)
theorem stepF_to (r0 i0 r1 i1 r2 i2 r3 i3 : Nat) (k now : Int) (l : List Int) : StepTo r0 i0 r1 i1 r2 i2 r3 i3 k now l (stepF r0 i0 r1 i1 r2 i2 r3 i3 k now l) := (Classical.choose_spec (step_total r0 i0 r1 i1 r2 i2 r3 i3 k now l)).1
theorem stepF_fit {r0 i0 r1 i1 r2 i2 r3 i3 : Nat} {k now : Int} {l : List Int} (h : (stepF r0 i0 r1 i1 r2 i2 r3 i3 k now l).2 = 0) : Fit k (stepF r0 i0 r1 i1 r2 i2 r3 i3 k now l).1 ∧ Fit k l ∧ (stepF r0 i0 r1 i1 r2 i2 r3 i3 k now l).1.length = l.length :=
  (Classical.choose_spec (step_total r0 i0 r1 i1 r2 i2 r3 i3 k now l)).2 h
/-- calls, one behind the other: of each when it is and what it sets -/
noncomputable def runF (r0 i0 r1 i1 r2 i2 r3 i3 : Nat) (k : Int) (may : Nat) : List Int → List (Int × List Int) → List Int × Int
  | l, [] => (l, 0)
  | l, x :: xs => if may < x.2.length then ([], 4) else if (stepF r0 i0 r1 i1 r2 i2 r3 i3 k x.1 (over x.2 l)).2 = 0 then runF r0 i0 r1 i1 r2 i2 r3 i3 k may (stepF r0 i0 r1 i1 r2 i2 r3 i3 k x.1 (over x.2 l)).1 xs else ([], (stepF r0 i0 r1 i1 r2 i2 r3 i3 k x.1 (over x.2 l)).2)
def Cl.d (x : Cl) : Int × List Int := (x.now, x.l)

/-- how many may be set -/
def mayV (k : Int) : Nat := if k = 4 ∨ k = 5 ∨ k = 10 then 3 else if k = 6 ∨ k = 7 then 1 else 2
theorem fields_set {k : Int} {l : List Int} (h : Fit k l) : ∃ fs, typed_Fields.f 8 k = some (fs, 0) ∧ mayV k < fs.length ∧ (∀ i, i < mayV k → (rd_T60 fs (i : Int)).f2 = true) ∧ (rd_T60 fs (mayV k : Int)).f2 = false ∧ mayV k ≤ l.length := by
  have two : ∀ {P : Nat → Prop}, P 0 → P 1 → ∀ i, i < 2 → P i := fun h0 h1 i hi => by
    have : i = 0 ∨ i = 1 := by omega
    rcases this with rfl | rfl <;> assumption
  have three : ∀ {P : Nat → Prop}, P 0 → P 1 → P 2 → ∀ i, i < 3 → P i := fun h0 h1 h2 i hi => by
    have : i = 0 ∨ i = 1 ∨ i = 2 := by omega
    rcases this with rfl | rfl | rfl <;> assumption
  have one : ∀ {P : Nat → Prop}, P 0 → ∀ i, i < 1 → P i := fun h0 i hi => by
    obtain rfl : i = 0 := by omega
    exact h0
  rcases h with ⟨hk, a, b, c, d, e, f, rfl, _⟩ | ⟨hk, a, b, c, d, e, f, rfl, _⟩ | ⟨hk, a, b, c, rfl, _⟩ | ⟨rfl, a, b, c, d, e, f, rfl, _⟩
  · rcases hk with rfl | rfl | rfl <;> exact ⟨_, rfl, by decide, two rfl rfl, rfl, by simp [mayV]⟩
  · rcases hk with rfl | rfl <;> exact ⟨_, rfl, by decide, three rfl rfl rfl, rfl, by simp [mayV]⟩
  · rcases hk with rfl | rfl | rfl | rfl
    · exact ⟨_, rfl, by decide, one rfl, rfl, by simp [mayV]⟩
    · exact ⟨_, rfl, by decide, one rfl, rfl, by simp [mayV]⟩
    · exact ⟨_, rfl, by decide, two rfl rfl, rfl, by simp [mayV]⟩
    · exact ⟨_, rfl, by decide, two rfl rfl, rfl, by simp [mayV]⟩
  · exact ⟨_, rfl, by decide, three rfl rfl rfl, rfl, by simp [mayV]⟩

/-- a row, its block laid open -/
theorem Row.open_ {b g c : Nat} {W : World} {l : List Int} (h : Row b W g c l) : ∃ cur : List Value, W.heap[g]? = some (.cells cur.toArray 2 (0, 0)) ∧ l.length ≤ cur.length ∧ cur.take l.length = nums .i64 l ∧ cur.length = c ∧ c ≤ maxLen ∧ l.length ≤ c ∧ b ≤ g := by
  have h2 := Kd.own_of_R h
  rcases h2.2 with ⟨h3, _⟩ | ⟨g', cap, cur, hv, hb, hh, hn, hm, hs, ht⟩
  · cases h3
  · injection hv with h4 _ h6
    injection h4 with h4
    injection h4 with h4
    subst h4
    subst h6
    exact ⟨cur.toList, by simpa using hh, by simp; omega, by rw [Nat.mul_one] at ht; exact ht, by simpa using hs, hm, hn, hb⟩
theorem Row.splice {b g c : Nat} {W' : World} {l a : List Int} {cur : List Value} (ha : a.length ≤ l.length) (h1 : cur.take l.length = nums .i64 l) (h2 : cur.length = c) (h3 : c ≤ maxLen) (h4 : l.length ≤ c) (h5 : b ≤ g)
    (hg : W'.heap[g]? = some (.cells (splice cur 0 (nums .i64 a)).toArray 2 (0, 0))) : Row b W' g c (over a l) := by
  have hs : (Go.splice cur 0 (nums .i64 a)).length = cur.length := by unfold Go.splice; simp [nums]; omega
  have ht : (Go.splice cur 0 (nums .i64 a)).take l.length = nums .i64 (over a l) := by
    unfold Go.splice over
    rw [nums_append]
    have e : (nums .i64 a).length = a.length := nums_length _ _
    simp only [List.take_zero, List.nil_append, Nat.zero_add, e]
    rw [List.take_append, e, List.take_of_length_le (by rw [e]; exact ha)]
    congr 1
    have e2 : nums .i64 (l.drop a.length) = (nums .i64 l).drop a.length := by simp [nums]
    rw [e2, ← h1, List.drop_take]
  have ho : W'.ownsRow b 2 1 (.slice (some ⟨g, 0, none⟩) (over a l).length c) (over a l).length (nums .i64 (over a l)) := by
    rw [over_len ha]
    refine ⟨by rw [nums_length, over_len ha]; omega, .inr ⟨g, c, _, rfl, h5, hg, h4, h3, by simp [hs, h2], by simpa using ht⟩⟩
  exact Kd.R_of_own ho (fun _ _ => trivial)
/-- copy into a row: the row behind it, and that all else stays -/
theorem wpList_copyK {P : Program} {w : World} {ops : Array Oper} {rest : List Oper} {o : Oper} {a : Act} {Q : Exit → Act → World → Prop} (hgd : o.guard = none) (d s : Operand) (dT sT : TypeId)
    (ho : o.op = .call { callee := .builtin .copy, args := #[d, s], argTypes := #[dT, sT] }) (elem : TypeId) (hu : P.underlying dT = some (.slice elem)) (hsz : (P.info? elem).map (·.size) = some 1)
    (sp : Option Addr) (dLen dCap sLen sCap g : Nat) (hd : a.eval d = .slice (some ⟨g, 0, none⟩) dLen dCap) (hs : a.eval s = .slice sp sLen sCap)
    (cur : List Value) (t : TypeId) (hg : w.heap[g]? = some (.cells cur.toArray t (0, 0))) (xs : List Int) (hr : ReadsInt w .i64 sp sLen xs) (hle : sLen ≤ dLen) (hfit : dLen ≤ cur.length)
    (h : ∀ w', Hid (w'.heap[g]? = some (.cells (splice cur 0 (nums .i64 xs)).toArray t (0, 0))) → Kept w w' (fun k => k = g) → (∀ B w0, Below B w0 w → B ≤ g → Below B w0 w') → wpList P ops Q rest (a.put o.dst (goInt xs.length)) w') :
    wpList P ops Q (o :: rest) a w := by
  have hl : xs.length = sLen := hr.1
  by_cases h0 : xs.length = 0
  · obtain rfl : xs = [] := List.eq_nil_of_length_eq_zero h0
    refine wpList_copy_nothing hgd d s dT sT ho elem hu hsz _ sp dLen dCap sLen sCap hd hs (by simp at hl; subst hl; exact Nat.zero_min _) ?_
    exact h w (show _ = _ by simpa [splice, nums] using hg) (Kept.refl _ _) (fun _ _ hb _ => hb)
  · obtain ⟨ad, rfl, hc⟩ := hr.2.2 (by omega)
    refine wpList_copy_own hgd d s dT sT ho elem hu hsz g 0 dLen dCap ad sLen sCap hd hs cur.toArray t hg (nums .i64 xs) (by rw [nums_length, hl]; exact (Nat.min_eq_left hle).symm) (fun j v hv => ?_) (by rw [nums_length]; simp; omega) (fun v hv => ?_) ?_
    · have hj : j < xs.length := by have := (List.getElem?_eq_some_iff.1 hv).1; rwa [nums_length] at this
      have e : v = .int .i64 (xs.getD j 0) := by
        simp [nums, List.getElem?_eq_getElem hj] at hv
        simp [List.getD_eq_getElem?_getD, List.getElem?_eq_getElem hj, hv]
      rw [e]
      exact hc j (by omega)
    · simp only [nums, List.mem_map] at hv
      obtain ⟨x, _, rfl⟩ := hv
      rfl
    · have hk := h (w.setRow g (splice cur 0 (nums .i64 xs)).toArray) (show _ = _ by simpa using setRow_heap w g _ _ t _ hg) ⟨by simp [World.setRow], fun i _ hi => setRow_other w g i _ (fun e => hi e)⟩ (fun B w0 hb hB => below_setRow hb hB _)
      rw [nums_length]
      simpa [splice, nums_length] using hk

end Go.Proofs.YtefflkmegodafaaDoor.PBlockKeeps
