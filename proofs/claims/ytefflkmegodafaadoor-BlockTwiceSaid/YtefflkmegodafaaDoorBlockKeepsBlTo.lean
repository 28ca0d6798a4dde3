/-
  What the law BlockTwice is handed, opened: the calls as they lie in memory; and the circle, which holds four complex numbers in every shaped world.
-/
import Derived.Test.YtefflkmegodafaaDoorBlockKeepsBlTw
import Derived.Test.YtefflkmegodafaaDoorBlSh
import Derived.Deep.Slices
import Derived.Deep.Fields
import Derived.ChangeSame
import Derived.Lib.SmallJoins
import Derived.WalkKit
import Derived.ProofKit
import Derived.OpenShut
namespace Go.Proofs.YtefflkmegodafaaDoor.PBlockKeeps
open Go.RowKit Go.Proofs.YtefflkmegodafaaDoorW.PrintWords Go.Proofs.YtefflkmegodafaaDoorW.PrintLast Go.Proofs.YtefflkmegodafaaDoorW.PrintMore
open Go.ChangeShapes Go.WideShapes Go.ChangeAt Go.Deep
section
variable {H : Type} {enc : TypeId × Value → H} {P : Program} {w : World} {base : Nat} {spare : Nat → Bool} {held : Bool}
theorem open_slice_fields {t e : TypeId} {fs : Array Field} {fuel : Nat} {cs : List Value} {x : DataW H × List MemPlace} (ht : P.underlying t = some (.slice e)) (he : P.underlying e = some (.struct fs))
    (hone : oneCellFields P fs = true) (hC : P.cellsOf e = fs.size) (h : DataW.trod enc P w base spare held fuel t cs = some x) :
    (cs = [.slice none 0 0]) ∨
    ∃ (a : Addr) (len cap m : Nat), cs = [.slice (some a) len cap] ∧ len ≤ cap ∧ cap ≤ maxLen ∧ m = (if spare a.block then cap else len) ∧
      ∀ i, i < m → ∃ (ys : List (DataW H × List MemPlace)) (n : Nat),
        ∀ (j : Nat) (f : Field), fs[j]? = some f → ∃ (v : Value) (y : DataW H × List MemPlace), w.cell? (a.add (i * fs.size + j)) = some v ∧ ys[j]? = some y ∧ DataW.trod enc P w base spare held n f.type [v] = some y := by
  rcases open_slice ht h with h0 | ⟨a, len, cap, m, n, D, Pl, hcs, hb, hl, hm, hmm, hx, hi⟩
  · exact .inl h0.1
  · refine .inr ⟨a, len, cap, m, hcs, hl, hm, hmm, fun i him => ?_⟩
    obtain ⟨cs', hc, ht'⟩ := hi i him
    rw [hC] at hc
    obtain ⟨ys, n', _, _, hlen, hyl, hf⟩ := DataW.trod_struct he ht'
    obtain ⟨_, hcl, hat⟩ := World.cells?_some hc
    refine ⟨ys, n', fun j f hj => ?_⟩
    obtain ⟨ho, hk⟩ := hone_of hone j f hj
    have hjl : j < fs.size := (Array.getElem?_eq_some_iff.1 hj).1
    have hcell := hat j hjl
    have hv : cs'[j]? = some (cs'[j]'(by omega)) := List.getElem?_eq_getElem (by omega)
    have h1 := hf j f hj
    rw [ho, hk] at h1
    have hone' : (cs'.drop j).take 1 = [cs'[j]'(by omega)] := by
      rw [List.drop_eq_getElem_cons (by omega)]
      rfl
    rw [hone'] at h1
    have hys : ys[j]? = some (ys[j]'(by omega)) := List.getElem?_eq_getElem (by omega)
    refine ⟨_, _, ?_, hys, h1.trans hys⟩
    rw [← Go.Deep.add_add, hcell, hv]
end

theorem cellsCall : Tryd.prog.cellsOf 40 = 2 := by kernel_rfl
theorem ints_of {H : Type} {enc : TypeId × Value → H} {W : World} {base fuel : Nat} {v : Value} {x : DataW H × List MemPlace} (h : DataW.trod enc Tryd.prog W base (fun _ => true) true fuel 22 [v] = some x) :
    ∃ (A : Option Addr) (n c : Nat) (l : List Int), v = .slice A n c ∧ ReadsInt W .i64 A n l := by
  rcases open_ints Tryd.underlying22 Tryd.underlying2 (by kernel_rfl) h with ⟨hcs, _⟩ | ⟨y, len, c, zs, hcs, _, hl, hm, hz, _, hcell, hwz⟩
  · simp at hcs
    subst hcs
    exact ⟨none, 0, 0, [], rfl, ReadsInt.nil _ _⟩
  · simp at hcs
    subst hcs
    obtain ⟨l, e, hr, _, _⟩ := ReadsInt.ofRow (w := W) (k := .i64) (a := some y) (len := len) (cap := c) (zs := zs) (.inr ⟨_, rfl, hl, hm, by simpa using hz, hcell, hwz⟩)
    exact ⟨some y, len, c, l, rfl, e ▸ hr⟩
theorem open_calls {H : Type} {enc : TypeId × Value → H} {W : World} {base : Nat} {r : Reach} {b0 : Nat} {v : Value} {d : DataW H} {p : List MemPlace} (hv : Value.okWide Tryd.prog W r b0 37 v)
    (h : DataW.Trod enc Tryd.prog W base (fun _ => true) true 37 v d p) :
    ∃ (A : Option Addr) (c : Nat) (xs : List Cl), v = .slice A xs.length c ∧ CallsAt W A xs.length xs ∧ xs.length ≤ c := by
  obtain ⟨A, n, c, rfl⟩ := okWide_slice Tryd.underlying37 hv
  obtain ⟨fuel, hf⟩ := h
  rcases open_slice_fields Tryd.underlying37 Tryd.underlying40 (by kernel_rfl) (by kernel_rfl) hf with e1 | ⟨a, len, cap, m, e1, hl, hm, hmm, hi⟩
  · simp [Value.cells] at e1
    obtain ⟨rfl, rfl, rfl⟩ := e1
    exact ⟨none, 0, [], rfl, ⟨rfl, by simp, fun h => absurd h (by simp)⟩, Nat.le_refl _⟩
  · simp [Value.cells] at e1
    obtain ⟨rfl, rfl, rfl⟩ := e1
    simp only [if_true] at hmm
    subst hmm
    have one : ∀ i, ∃ x : Cl, i < m → W.cell? (a.add (i * 2 + 0)) = some (.int .i64 x.now) ∧ W.cell? (a.add (i * 2 + 1)) = some (.slice x.A x.n x.c) ∧ ReadsInt W .i64 x.A x.n x.l := by
      intro i
      by_cases him : i < m
      · obtain ⟨ys, n', hf⟩ := hi i him
        obtain ⟨u0, z0, q0, _, t0⟩ := hf 0 _ rfl
        obtain ⟨u1, z1, q1, _, t1⟩ := hf 1 _ rfl
        obtain ⟨x0, e0, _, _⟩ := DataW.trod_int Tryd.underlying2 t0
        obtain ⟨A1, n1, c1, l1, rfl, hr1⟩ := ints_of t1
        simp at e0
        subst e0
        exact ⟨⟨x0, A1, n1, c1, l1⟩, fun _ => ⟨q0, q1, hr1⟩⟩
      · exact ⟨⟨0, none, 0, 0, []⟩, fun h => absurd h him⟩
    obtain ⟨f, hf⟩ := Classical.axiomOfChoice one
    refine ⟨some a, m, (List.range n).map f, by simp, ?_, by simpa using hl⟩
    simp only [List.length_map, List.length_range]
    refine ⟨by simp, fun x hx => ?_, fun _ => ⟨a, rfl, fun j x hx => ?_⟩⟩
    · obtain ⟨i, hi', rfl⟩ := List.mem_map.1 hx
      exact (hf i (by have := List.mem_range.1 hi'; omega)).2.2
    · rw [List.getElem?_map] at hx
      by_cases hj : j < n
      · rw [List.getElem?_range hj] at hx
        simp at hx
        subst hx
        obtain ⟨g0, g1, _⟩ := hf j (by omega)
        exact ⟨g0, by rw [← add_field _ _ 1 (by omega)]; exact g1⟩
      · rw [List.getElem?_eq_none (by simpa using hj)] at hx
        simp at hx

theorem complex_of {P : Program} {w : World} {r : Reach} {base : Nat} {t : TypeId} {v : Value} (hu : P.underlying t = some (.complex .f64)) (h : Cell.ok P w r base t v) : ∃ re im, v = .complex .f64 re im := by
  unfold Cell.ok at h
  rw [hu] at h
  cases v <;> simp at h
  obtain ⟨rfl, _⟩ := h
  exact ⟨_, _, rfl⟩
theorem four_of {u x : TypeId} {i : Nat} (hi : i < 4) (h : [x, x, x, x][i % 4]? = some u) : u = x := by
  have h4 : i = 0 ∨ i = 1 ∨ i = 2 ∨ i = 3 := by omega
  rcases h4 with rfl | rfl | rfl | rfl <;> simpa [eq_comm] using h
set_option maxRecDepth 100000 in
/-- in a shaped world the circle holds four complex numbers -/
theorem circ_of_shaped {W : World} (h : W.ShapedOpen Tryd.prog) : ∃ r0 i0 r1 i1 r2 i2 r3 i3, Circ r0 i0 r1 i1 r2 i2 r3 i3 W := by
  obtain ⟨zero, hz, hs⟩ : ∃ zero, (((begin Tryd.prog (fun _ _ => 0) default).world.heap[0]?).bind Obj.row? = some (zero, 92)) ∧ zero.size = 4 := ⟨#[.complex .f64 0 0, .complex .f64 0 0, .complex .f64 0 0, .complex .f64 0 0], by kernel_rfl, by kernel_rfl⟩
  obtain ⟨cs, hc, hsz, hok⟩ := h.1 0 zero 92 (of_decide_eq_true (by kernel_rfl)) hz
  obtain ⟨ts, ht, _, hcell⟩ := hok (by kernel_rfl)
  have ht2 : Tryd.prog.cellTypes Tryd.prog.depth 92 = some [85, 85, 85, 85] := by kernel_rfl
  have e := Option.some.inj (ht.symm.trans ht2)
  subst e
  have one : ∀ i, i < 4 → ∃ re im, W.cell? ⟨0, i, none⟩ = some (.complex .f64 re im) := by
    intro i hi
    have hl : i < cs.size := by omega
    obtain ⟨u, hu, hk⟩ := hcell i cs[i] (Array.getElem?_eq_getElem hl)
    have hu2 : u = 85 := four_of hi hu
    subst hu2
    obtain ⟨re, im, hv⟩ := complex_of (P := Tryd.prog) (t := 85) Tryd.underlying85 hk
    refine ⟨re, im, ?_⟩
    rw [cell_of_row W 0 i cs _ (0, 0) hc, Array.getElem?_eq_getElem hl, hv]
  obtain ⟨r0, i0, h0⟩ := one 0 (by omega)
  obtain ⟨r1, i1, h1⟩ := one 1 (by omega)
  obtain ⟨r2, i2, h2⟩ := one 2 (by omega)
  obtain ⟨r3, i3, h3⟩ := one 3 (by omega)
  exact ⟨r0, i0, r1, i1, r2, i2, r3, i3, World.block_lt_of_cell? W _ h0, h0, h1, h2, h3⟩
/-- a row's contract, of shaped worlds -/
theorem returns_shaped {H : Type} {enc : TypeId × Value → H} {a : Assume} {C : Checked} {os : Os} {f : FuncId} {fn : Func} {s : ChangeSpec} {conds : List PathCond} {apart fresh handsOn again : Bool}
    (own : ownKnob C.prog.godebug = none) (started : os.Started) (noInit : C.prog.inits.idxOf? f = none) (hfn : C.prog.funcs[f]? = some fn)
    (witness : ∃ (w : World) (tape : Tape) (i : Input), w.os = os ∧ (w.forCall tape i).Shaped C.prog ∧ i.vars = [] ∧ Input.okWide C.prog (w.forCall tape i) .any w.heap.size f i ∧
      s.pre6 enc C.prog fn conds apart (w.forCall tape i).memory i.args ∧ a.holds C.prog (lone (Frame.enter C.prog f i.args .normal) [] (w.forCall tape i)))
    (contract : ∀ (W : World) (base : Nat) (args : Array Value) (ds gs : List (DataW H)) (before : List MemPlace), W.ShapedOpen C.prog →
      (∀ (j : Nat) t v, fn.params[j]? = some t → args[j]? = some v → Value.okWide C.prog W .any base t v) →
      DataW.Whole enc C.prog fn.params.toList s.vars apart W args.toList ds gs before →
      Calls C.prog f args W fun e W' => ∃ v, e = .returned v ∧ s.post enc C.prog fn apart fresh handsOn again W args v W') :
    ReturnsInHanded a C os f .any (s.pre6 enc C.prog fn conds apart) (s.post enc C.prog fn apart fresh handsOn again) := by
  refine returnsInHanded_of_calls own started noInit witness ?_
  intro w tape i _ hshape _ hok hpre _
  obtain ⟨_, _, _, fn', hfn', _, _, _, _, hval⟩ := hok
  have e : fn' = fn := Option.some.inj (hfn'.symm.trans hfn)
  subst e
  obtain ⟨⟨ds, gs, before, hw, _⟩, _⟩ := hpre
  have hw' := DataW.Whole.of_heap (w' := w.forCall tape i) (by rfl) hw
  refine (contract (w.forCall tape i) w.heap.size i.args ds gs before hshape hval hw').mono fun e W' ⟨v, he, hp⟩ => ?_
  subst he
  exact ChangeSpec.post_blind hp

end Go.Proofs.YtefflkmegodafaaDoor.PBlockKeeps
