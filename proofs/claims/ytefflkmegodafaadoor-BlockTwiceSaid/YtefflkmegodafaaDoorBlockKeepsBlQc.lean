/-
  The product of two complex numbers, NaN let in: how its parts stand to nought is the same in every world.
-/
import Derived.Test.YtefflkmegodafaaDoorBlockKeepsBlQb
import Derived.Laws.ComplexArith
namespace Go.Proofs.YtefflkmegodafaaDoor.PBlockKeeps
open Go.RowKit Go.Proofs.YtefflkmegodafaaDoorW.PrintWords Go.Proofs.YtefflkmegodafaaDoorW.PrintLast Go.Proofs.YtefflkmegodafaaDoorW.PrintMore

def isN (x : Nat) : Prop := ∃ s p, Ieee.double.read x = .nan s p
def ltB (x : Nat) : Bool := FloatKind.f64.format.order x 0 == some .lt
def gtB (x : Nat) : Bool := FloatKind.f64.format.order x 0 == some .gt
theorem isN_cut (x y t : Nat) : isN ((Question.nanBits .f64 x y).cut t) := by
  show isN ((t % 2) * 2 ^ 63 + 0x7ff0000000000000 + 1 + (t / 2) % (2 ^ 52 - 1))
  unfold isN Ieee.Format.read
  have e : ((t % 2) * 2 ^ 63 + 0x7ff0000000000000 + 1 + (t / 2) % (2 ^ 52 - 1)) % Ieee.double.signWeight = 0x7ff0000000000000 + 1 + (t / 2) % (2 ^ 52 - 1) := by
    show _ % 9223372036854775808 = _
    omega
  have h1 : ¬ 0x7ff0000000000000 + 1 + (t / 2) % (2 ^ 52 - 1) < Ieee.double.binade := by
    show ¬ _ < 4503599627370496
    omega
  have h2 : ¬ 0x7ff0000000000000 + 1 + (t / 2) % (2 ^ 52 - 1) < Ieee.double.infRung := by
    show ¬ _ < 9218868437227405312
    omega
  have h3 : ¬ 0x7ff0000000000000 + 1 + (t / 2) % (2 ^ 52 - 1) = Ieee.double.infRung := by
    show ¬ _ = 9218868437227405312
    omega
  simp only [e]
  rw [if_neg h1, if_neg h2, if_neg h3]
  exact ⟨_, _, rfl⟩
theorem order_N {x : Nat} (h : isN x) : ltB x = false ∧ gtB x = false := by
  obtain ⟨s, p, h⟩ := h
  have e : FloatKind.f64.format.order x 0 = none := by
    show (Ieee.double.read x).order (Ieee.double.read 0) = none
    rw [h]; rfl
  unfold ltB gtB
  rw [e]
  exact ⟨rfl, rfl⟩
theorem op_N {x y : Nat} (h : isN x ∨ isN y) : FloatKind.f64.format.add x y = none ∧ FloatKind.f64.format.sub x y = none := by
  have e1 : ∀ (p : Bool) (q : Nat) (d : Ieee.Datum), Ieee.Datum.sum (.nan p q) d = none := fun p q d => by cases d <;> rfl
  have e2 : ∀ (p : Bool) (q : Nat) (d : Ieee.Datum), Ieee.Datum.sum d (.nan p q) = none := fun p q d => by cases d <;> rfl
  constructor
  · show ((Ieee.double.read x).sum (Ieee.double.read y)).map Ieee.double.write = none
    rcases h with ⟨s, p, h⟩ | ⟨s, p, h⟩ <;> rw [h]
    · rw [e1]; rfl
    · rw [e2]; rfl
  · show ((Ieee.double.read x).sum (Ieee.double.read y).opposite).map Ieee.double.write = none
    rcases h with ⟨s, p, h⟩ | ⟨s, p, h⟩ <;> rw [h]
    · rw [e1]; rfl
    · show ((Ieee.double.read x).sum (.nan (!s) p)).map Ieee.double.write = none
      rw [e2]; rfl

def Det (m : Sem Nat) : Prop := ∃ r, ∀ P w, m.run P w = .ok r w
def Nan (m : Sem Nat) : Prop := ∀ P w, ∃ r w', isN r ∧ m.run P w = .ok r w' ∧ Below w.heap.size w w'
theorem nan_of {op : BinOp} {x y : Nat} (h : ∀ P w, (Op.Complex.arith op .f64 x y).run P w = .ok ((Question.nanBits .f64 x y).cut (w.tape w.drawn (.nanBits .f64 x y))) w.drew) : Nan (Op.Complex.arith op .f64 x y) :=
  fun P w => ⟨_, _, isN_cut _ _ _, h P w, below_drew' w⟩
theorem add_cases (x y : Nat) : Det (Op.Complex.add x y) ∨ (Nan (Op.Complex.add x y)) := by
  cases h : FloatKind.f64.format.add x y with
  | some r => exact .inl ⟨r, fun P w => by simp [Op.Complex.add, Op.Complex.arith, Op.floatArith, h]⟩
  | none => exact .inr (nan_of fun P w => by simp [Op.Complex.arith, Op.floatArith, h, Question.forced])
theorem sub_cases (x y : Nat) : Det (Op.Complex.sub x y) ∨ (Nan (Op.Complex.sub x y)) := by
  cases h : FloatKind.f64.format.sub x y with
  | some r => exact .inl ⟨r, fun P w => by simp [Op.Complex.sub, Op.Complex.arith, Op.floatArith, h]⟩
  | none => exact .inr (nan_of fun P w => by simp [Op.Complex.arith, Op.floatArith, h, Question.forced])
theorem mul_cases (x y : Nat) : Det (Op.Complex.mul x y) ∨ (Nan (Op.Complex.mul x y)) := by
  cases h : FloatKind.f64.format.mul x y with
  | some r => exact .inl ⟨r, fun P w => by simp [Op.Complex.mul, Op.Complex.arith, Op.floatArith, h]⟩
  | none => exact .inr (nan_of fun P w => by simp [Op.Complex.arith, Op.floatArith, h, Question.forced])
theorem add_N {x y : Nat} (h : isN x ∨ isN y) : Nan (Op.Complex.add x y) := nan_of fun P w => by simp [Op.Complex.arith, Op.floatArith, (op_N h).1, Question.forced]
theorem sub_N {x y : Nat} (h : isN x ∨ isN y) : Nan (Op.Complex.sub x y) := nan_of fun P w => by simp [Op.Complex.arith, Op.floatArith, (op_N h).2, Question.forced]
/-- two numbers, and what is made of both -/
def three (m1 m2 : Sem Nat) (f : Nat → Nat → Sem Nat) : Sem Nat := do
  let x ← m1
  let y ← m2
  f x y
theorem three_cases {m1 m2 : Sem Nat} {f : Nat → Nat → Sem Nat} (h1 : Det m1 ∨ Nan m1) (h2 : Det m2 ∨ Nan m2) (hf : ∀ x y, Det (f x y) ∨ Nan (f x y)) (hN : ∀ x y, isN x ∨ isN y → Nan (f x y)) : Det (three m1 m2 f) ∨ Nan (three m1 m2 f) := by
  rcases h1 with ⟨r1, h1⟩ | h1
  · rcases h2 with ⟨r2, h2⟩ | h2
    · rcases hf r1 r2 with ⟨r, h⟩ | h
      · exact .inl ⟨r, fun P w => by simp [three, h1, h2, h]⟩
      · exact .inr fun P w => by
          obtain ⟨r, w', hr, e, hb⟩ := h P w
          exact ⟨r, w', hr, by simp [three, h1, h2, e], hb⟩
    · exact .inr fun P w => by
        obtain ⟨r2, w2, hr2, e2, hb2⟩ := h2 P w
        obtain ⟨r, w', hr, e, hb⟩ := hN r1 r2 (.inr hr2) P w2
        exact ⟨r, w', hr, by simp [three, h1, e2, e], hb2.trans (hb.mono hb2.size)⟩
  · exact .inr fun P w => by
      obtain ⟨r1, w1, hr1, e1, hb1⟩ := h1 P w
      rcases h2 with ⟨r2, h2⟩ | h2
      · obtain ⟨r, w', hr, e, hb⟩ := hN r1 r2 (.inl hr1) P w1
        exact ⟨r, w', hr, by simp [three, h2, e1, e], hb1.trans (hb.mono hb1.size)⟩
      · obtain ⟨r2, w2, hr2, e2, hb2⟩ := h2 P w1
        obtain ⟨r, w', hr, e, hb⟩ := hN r1 r2 (.inl hr1) P w2
        exact ⟨r, w', hr, by simp [three, e1, e2, e], (hb1.trans (hb2.mono hb1.size)).trans (hb.mono (Nat.le_trans hb1.size hb2.size))⟩
theorem andThen_assoc {α β γ : Type} (r : Result α) (f : α → World → Result β) (g : β → World → Result γ) : (r.andThen f).andThen g = r.andThen fun a w => (f a w).andThen g := by cases r <;> rfl
theorem product_run (a b c d : Nat) (P : Program) (w : World) : (Op.Complex.product a b c d).run P w =
    ((three (Op.Complex.mul a c) (Op.Complex.mul b d) Op.Complex.sub).run P w).andThen fun x w1 => ((three (Op.Complex.mul a d) (Op.Complex.mul b c) Op.Complex.add).run P w1).andThen fun y w2 => .ok (x, y) w2 := by
  unfold Op.Complex.product three
  simp only [Sem.run_bind, Sem.run_pure, andThen_assoc]
theorem part_of {m : Sem Nat} (h : Det m ∨ Nan m) : ∃ l g : Bool, ∀ P w, ∃ r w', m.run P w = .ok r w' ∧ Below w.heap.size w w' ∧ ltB r = l ∧ gtB r = g := by
  rcases h with ⟨r, h⟩ | h
  · exact ⟨ltB r, gtB r, fun P w => ⟨r, w, h P w, Below.refl _ _, rfl, rfl⟩⟩
  · refine ⟨false, false, fun P w => ?_⟩
    obtain ⟨r, w', hr, e, hb⟩ := h P w
    exact ⟨r, w', e, hb, (order_N hr).1, (order_N hr).2⟩
theorem mulC (a b c d : Nat) : ∃ l g m : Bool, ∀ (P : Program) (t : TypeId) (w : World), ∃ re im w', (binOp .mul t (.complex .f64 a b) (.complex .f64 c d)).run P w = .ok (.complex .f64 re im) w' ∧ Below w.heap.size w w' ∧ ltB re = l ∧ gtB im = g ∧ ltB im = m := by
  have hX := three_cases (mul_cases a c) (mul_cases b d) sub_cases (fun _ _ => sub_N)
  have hY := three_cases (mul_cases a d) (mul_cases b c) add_cases (fun _ _ => add_N)
  have run : ∀ (P : Program) (t : TypeId) (w : World), (binOp .mul t (.complex .f64 a b) (.complex .f64 c d)).run P w = ((Op.Complex.product a b c d).run P w).andThen fun x w' => .ok (.complex .f64 x.1 x.2) w' := by
    intro P t w
    simp [binOp, Op.complexOp, Op.Complex.conv]
  obtain ⟨l, _, hx⟩ := part_of hX
  obtain ⟨m, g, hy⟩ := part_of hY
  refine ⟨l, g, m, fun P t w => ?_⟩
  obtain ⟨re, w1, e1, b1, hl, _⟩ := hx P w
  obtain ⟨im, w2, e2, b2, hm, hg⟩ := hy P w1
  exact ⟨re, im, w2, by rw [run, product_run, e1]; simp only [Result.andThen_ok]; rw [e2]; rfl, b1.trans (b2.mono b1.size), hl, hg, hm⟩

end Go.Proofs.YtefflkmegodafaaDoor.PBlockKeeps
