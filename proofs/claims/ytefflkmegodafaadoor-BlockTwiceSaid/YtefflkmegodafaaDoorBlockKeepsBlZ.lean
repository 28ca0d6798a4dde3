/-
  The walks of layer 12: rows of cells; (cells).do and block.Step of each kind but QUAD, as functions of lists.
-/
import Derived.Test.YtefflkmegodafaaDoorBlockKeepsBlY
namespace Go.Proofs.YtefflkmegodafaaDoor.PBlockKeeps
open Go.RowKit Go.Proofs.YtefflkmegodafaaDoorW.PrintWords Go.Proofs.YtefflkmegodafaaDoorW.PrintLast Go.Proofs.YtefflkmegodafaaDoorW.PrintMore

/-- a row of cells of the call's own, in block g -/
def Row (b : Nat) (W : World) (g c : Nat) (l : List Int) : Prop := Kd.R kI 2 W b (fun _ => True) (.slice (some ⟨g, 0, none⟩) l.length c) l
section
variable {b b' g c g' c' : Nat} {W W' : World} {l l' : List Int}
theorem Row.lit (W : World) (l : List Int) (hb : b ≤ W.heap.size) (hm : l.length ≤ 9223372036854775807) : Row b (W.alloc (.cells (l.map (Value.int .i64)).toArray 2)) W.heap.size l.length l :=
  Kd.R_of_own (own_lit W b 2 .i64 l hb hm) (fun _ _ => trivial)
theorem Row.below (h : Row b W g c l) (hb : Below W.heap.size W W') : Row b W' g c l := Kd.R_below h hb
theorem Row.drew (h : Row b W g c l) : Row b W.drew g c l := h.below (below_drew' _)
theorem Row.alloc (h : Row b W g c l) (o : Obj) : Row b (W.alloc o) g c l := h.below (bnew' W o)
theorem Row.lower (h : Row b W g c l) (hb : b' ≤ b) : Row b' W g c l := Kd.R_lower h hb
theorem Row.lt (h : Row b W g c l) : g < W.heap.size := by
  obtain ⟨_, inner, ho, _⟩ := h
  exact own_lt ho g rfl
theorem Row.ge (h : Row b W g c l) : b ≤ g := by
  obtain ⟨_, inner, ho, _⟩ := h
  exact own_base ho g rfl
theorem Row.put (h : Row b W g c l) (i : Nat) (x : Int) : Row b (W.setCell ⟨g, i, none⟩ (.int .i64 x)) g c (l.set i x) := by
  have h2 := Kd.R_putn h (i : Int) x
  unfold Row
  rw [List.length_set]
  exact h2
theorem Row.far (h : Row b W g c l) (i : Nat) (x : Value) (hne : g' ≠ g) : Row b (W.setCell ⟨g', i, none⟩ x) g c l :=
  Kd.R_of_own (own_setCell (Kd.own_of_R h) (p := ⟨g', i, none⟩) (by simpa [Value.ownBlock] using hne) x) (fun _ _ => trivial)
theorem Row.cell (h : Row b W g c l) (i : Nat) (hi : i < l.length) : W.cell? ⟨g, i, none⟩ = some (.int .i64 (l.getD i 0)) ∧ W.frozen? ⟨g, i, none⟩ = false :=
  Kd.R_celln 0 h (i : Int) (by omega) (by omega)
theorem Row.C (h : Row b W g c l) : Kd.C kI W (some ⟨g, 0, none⟩) l.length l := (Kd.R_reads' h).2.2
theorem Row.cap (h : Row b W g c l) : l.length ≤ c := (Kd.R_reads' h).2.1
end

/-- what a call makes of the cells, by kinds -/
def tonV (now a b e f : Int) : List Int := if a = 1 then [a, b, bitI (decide (b ≤ goneV now (if f = 1 then e else now))), min (goneV now (if f = 1 then e else now)) b, if f = 1 then e else now, 1] else [a, b, 0, 0, e, 0]
def tofV (now a b c d e f : Int) : List Int :=
  if a = 1 then [a, b, 1, 0, e, 0]
  else if c = 1 then [a, b, bitI (!decide (b ≤ goneV now (if f = 1 then e else now))), min (goneV now (if f = 1 then e else now)) b, if f = 1 then e else now, bitI (!decide (b ≤ goneV now (if f = 1 then e else now)))]
  else [a, b, c, d, e, f]
def tpRun (a b : Int) (q : Bool) (m s : Int) : List Int := [a, b, bitI (!q), if q = true ∧ a = 0 then 0 else m, s, bitI (!q)]
def tpV (now a b c d e f : Int) : List Int :=
  if a = 1 ∧ d = 0 then tpRun a b (decide (b ≤ goneV now (if f = 1 then e else now))) (min (goneV now (if f = 1 then e else now)) b) (if f = 1 then e else now)
  else if f = 1 then tpRun a b (decide (b ≤ goneV now e)) (min (goneV now e) b) e
  else if a = 0 then [a, b, c, 0, e, f] else [a, b, c, d, e, f]
def ctuV (a b c e f : Int) : List Int := [a, b, c, bitI (decide (c ≤ cvV a b e f 1 0)), cvV a b e f 1 0, a]
def ctdV (a b c e f : Int) : List Int := [a, b, c, bitI (decide (cvV a b e f (-1) c ≤ 0)), cvV a b e f (-1) c, a]
def riseV (a c : Int) : List Int := [a, bitI (decide (a = 1 ∧ c = 0)), a]
def fallV (a c : Int) : List Int := [a, bitI (decide (a = 0 ∧ c = 1)), a]

/-- a call makes l' of the cells l -/
def Does (k now : Int) (l l' : List Int) : Prop :=
  l'.length = l.length ∧ ∀ {w0 w : World} {g cap : Nat}, Has w0 w g cap l.length l w →
    Calls Tryd.prog 20 #[.agg #[.slice (some ⟨g, 0, none⟩) l.length cap, .int .i64 now], .int .i64 k] w fun x w' => x = .returned (.tuple #[]) ∧ Has w0 w g cap l.length l' w'

/-- a time of 32 bits; a number of 16 -/
def I32 (n : Int) : Prop := -2147483648 ≤ n ∧ n ≤ 2147483647
def I16 (n : Int) : Prop := -32768 ≤ n ∧ n ≤ 32767
theorem s_in {f e now : Int} (hn : I32 now) (he : I32 e) : I32 (if f = 1 then e else now) := by split <;> assumption
theorem does_ton {a b c d e f now : Int} (ha : Bit a) (hf : Bit f) (hn : I32 now) (he : I32 e) : Does 1 now [a, b, c, d, e, f] (tonV now a b e f) := by
  rcases ha with rfl | rfl
  · refine ⟨rfl, fun h => do_ton now h fun w h => ?_⟩
    exact on_no now h
  · refine ⟨rfl, fun h => do_ton now h fun w h => ?_⟩
    exact on_yes now h hn.1 hn.2 _ _ (s_in hn he).1 (s_in hn he).2 (Lib.hid rfl) (Lib.hid rfl) hf
theorem does_tof {a b c d e f now : Int} (ha : Bit a) (hc : Bit c) (hf : Bit f) (hn : I32 now) (he : I32 e) : Does 2 now [a, b, c, d, e, f] (tofV now a b c d e f) := by
  rcases ha with rfl | rfl
  · rcases hc with rfl | rfl
    · refine ⟨rfl, fun h => do_tof now h fun w h => ?_⟩
      exact off_none now h
    · refine ⟨rfl, fun h => do_tof now h fun w h => ?_⟩
      exact off_out now h hn.1 hn.2 _ _ (s_in hn he).1 (s_in hn he).2 (Lib.hid rfl) (Lib.hid rfl) hf
  · refine ⟨rfl, fun h => do_tof now h fun w h => ?_⟩
    exact off_in now h
theorem does_tp {a b c d e f now : Int} (ha : Bit a) (hf : Bit f) (hn : I32 now) (he : I32 e) : Does 3 now [a, b, c, d, e, f] (tpV now a b c d e f) := by
  have hs := s_in (f := f) hn he
  rcases ha with rfl | rfl
  · rcases hf with rfl | rfl
    · refine ⟨rfl, fun h => do_tp now h fun w h => ?_⟩
      exact pulse_0 now h
    · rcases hq : decide (b ≤ goneV now e) with _ | _
      · have e1 : tpV now 0 b c d e 1 = [0, b, 1, min (goneV now e) b, e, 1] := by simp [tpV, tpRun, hq, bitI]
        rw [e1]
        exact ⟨rfl, fun h => do_tp now h fun w h => pulse_1f now h hn.1 hn.2 he.1 he.2 (Lib.hid hq)⟩
      · have e1 : tpV now 0 b c d e 1 = [0, b, 0, 0, e, 0] := by simp [tpV, tpRun, hq, bitI]
        rw [e1]
        exact ⟨rfl, fun h => do_tp now h fun w h => pulse_1t now h hn.1 hn.2 he.1 he.2 (Lib.hid hq)⟩
  · by_cases hd : d = 0
    · subst hd
      generalize hS : (if f = 1 then e else now) = s at hs
      rcases hq : decide (b ≤ goneV now s) with _ | _
      · have e1 : tpV now 1 b c 0 e f = [1, b, 1, min (goneV now s) b, s, 1] := by simp [tpV, tpRun, hS, hq, bitI]
        rw [e1]
        exact ⟨rfl, fun h => do_tp now h fun w h => pulse_4f now h hn.1 hn.2 s hs.1 hs.2 (Lib.hid hS) hf (Lib.hid hq)⟩
      · have e1 : tpV now 1 b c 0 e f = [1, b, 0, min (goneV now s) b, s, 0] := by simp [tpV, tpRun, hS, hq, bitI]
        rw [e1]
        exact ⟨rfl, fun h => do_tp now h fun w h => pulse_4t now h hn.1 hn.2 s hs.1 hs.2 (Lib.hid hS) hf (Lib.hid hq)⟩
    · have hd' : (d == 0) = false := by simpa using hd
      rcases hf with rfl | rfl
      · have e1 : tpV now 1 b c d e 0 = [1, b, c, d, e, 0] := by simp [tpV, hd]
        rw [e1]
        exact ⟨rfl, fun h => do_tp now h fun w h => pulse_2 now h hd'⟩
      · rcases hq : decide (b ≤ goneV now e) with _ | _
        · have e1 : tpV now 1 b c d e 1 = [1, b, 1, min (goneV now e) b, e, 1] := by simp [tpV, tpRun, hd, hq, bitI]
          rw [e1]
          exact ⟨rfl, fun h => do_tp now h fun w h => pulse_3f now h hn.1 hn.2 he.1 he.2 hd' (Lib.hid hq)⟩
        · have e1 : tpV now 1 b c d e 1 = [1, b, 0, min (goneV now e) b, e, 0] := by simp [tpV, tpRun, hd, hq, bitI]
          rw [e1]
          exact ⟨rfl, fun h => do_tp now h fun w h => pulse_3t now h hn.1 hn.2 he.1 he.2 hd' (Lib.hid hq)⟩
theorem does_ctu {a b c d e f now : Int} (ha : Bit a) (hb : Bit b) (hf : Bit f) (he : I16 e) : Does 4 now [a, b, c, d, e, f] (ctuV a b c e f) :=
  ⟨rfl, fun h => do_ctu now h fun _ h => up_any now h _ _ ha hb hf he.1 he.2 (Lib.hid rfl) (Lib.hid rfl)⟩
theorem does_ctd {a b c d e f now : Int} (ha : Bit a) (hb : Bit b) (hf : Bit f) (he : I16 e) : Does 5 now [a, b, c, d, e, f] (ctdV a b c e f) :=
  ⟨rfl, fun h => do_ctd now h fun _ h => down_any now h _ _ ha hb hf he.1 he.2 (Lib.hid rfl) (Lib.hid rfl)⟩
theorem does_rise {a b c now : Int} (ha : Bit a) (hc : Bit c) : Does 6 now [a, b, c] (riseV a c) := by
  rcases ha with rfl | rfl
  · exact ⟨rfl, fun h => do_rise0 now h⟩
  · rcases hc with rfl | rfl
    · exact ⟨rfl, fun h => do_rise2 now h⟩
    · exact ⟨rfl, fun h => do_rise1 now h⟩
theorem does_fall {a b c now : Int} (ha : Bit a) (hc : Bit c) : Does 7 now [a, b, c] (fallV a c) := by
  rcases ha with rfl | rfl
  · rcases hc with rfl | rfl
    · exact ⟨rfl, fun h => do_fall2 now h⟩
    · exact ⟨rfl, fun h => do_fall1 now h⟩
  · exact ⟨rfl, fun h => do_fall0 now h⟩
theorem does_of {k now : Int} {l l' : List Int} (hl : l'.length = l.length)
    (hdo : ∀ (A : Option Addr) (c : Nat) (w0 w : World), Below w0.heap.size w0 w → Kd.R kI 2 w w0.heap.size (fun _ => True) (.slice A l.length c) l →
      Calls Tryd.prog 20 #[.agg #[.slice A l.length c, .int .i64 now], .int .i64 k] w fun e w' => e = .returned (.tuple #[]) ∧ Kd.R kI 2 w' w0.heap.size (fun _ => True) (.slice A l.length c) l' ∧ Below w0.heap.size w0 w' ∧ Kept w w' (Own (.slice A l.length c))) : Does k now l l' :=
  ⟨hl, fun {w0 w _ cap} h => (hdo _ cap w0 w h.2.2.1 h.2.1).mono fun _ _ ⟨he, hr, hb, hk⟩ => ⟨he, hl, hr, hb, hk⟩⟩
theorem does_sr {s r q now : Int} (hs : Bit s) (hr : Bit r) (hq : Bit q) : Does 8 now [s, r, q] [s, r, srV s r q] := by
  refine does_of rfl ?_
  intro A c w0 w hB ho
  rcases hs with rfl | rfl
  · rcases hr with rfl | rfl
    · rcases hq with rfl | rfl
      · exact do_sr000 now A c w0 w hB ho
      · exact do_sr001 now A c w0 w hB ho
    · exact do_sr01 q now A c w0 w hB ho
  · exact do_sr1 r q now A c w0 w hB ho
theorem does_rs {s r q now : Int} (hs : Bit s) (hr : Bit r) (hq : Bit q) : Does 9 now [s, r, q] [s, r, rsV s r q] := by
  refine does_of rfl ?_
  intro A c w0 w hB ho
  rcases hr with rfl | rfl
  · rcases hs with rfl | rfl
    · rcases hq with rfl | rfl
      · exact do_rs000 now A c w0 w hB ho
      · exact do_rs001 now A c w0 w hB ho
    · exact do_rs01 q now A c w0 w hB ho
  · exact do_rs1 s q now A c w0 w hB ho

/-- block.Step out of what a call makes of the cells -/
theorem step_does {k now : Int} {l l' : List Int} {m : Nat} (hd : Does k now l l') (hl : 0 < l.length) (hl2 : l.length ≤ 32) (h0 : 0 ≤ now) (h1 : now ≤ 2147483647) (hw : block_wrong.f m k l = some 0)
    (A : Option Addr) (c : Nat) (w : World) (hr : Kd.C kI w A l.length l) (hc : l.length ≤ c) :
    Calls Tryd.prog 10 #[.int .i64 k, .slice A l.length c, .int .i64 now] w fun e w' => ∃ g' c', e = .returned (.tuple #[.slice (some ⟨g', 0, none⟩) l'.length c', .int .i64 0]) ∧ Row w.heap.size w' g' c' l' ∧ Below w.heap.size w w' := by
  obtain ⟨hll, hdo⟩ := hd
  refine (step_of k l l' now m hl hl2 h0 h1 hw ?_ A c w hr hc).mono ?_
  · intro A c w0 w hB ho
    have ho' := Kd.own_of_R ho
    obtain ⟨g, cap, hv, _⟩ := ho'.form hl
    injection hv with hA hn hc
    subst hA
    subst hc
    refine (hdo (Has.start hB ho)).mono ?_
    rintro e w' ⟨he, h⟩
    exact ⟨he, h.2.1, h.2.2.1, h.2.2.2⟩
  · rintro e w' ⟨v, rfl, hv, hb⟩
    have hv' := Kd.own_of_R hv
    obtain ⟨g, cap, rfl, _⟩ := hv'.form (by omega)
    exact ⟨g, cap, rfl, hv, hb⟩
/-- .. and of cells of the call's own -/
theorem step_row {k now : Int} {l l' : List Int} {m : Nat} (hd : Does k now l l') (hl : 0 < l.length) (hl2 : l.length ≤ 32) (h0 : 0 ≤ now) (h1 : now ≤ 2147483647) (hw : block_wrong.f m k l = some 0)
    {b g c : Nat} {w : World} (hr : Row b w g c l) :
    Calls Tryd.prog 10 #[.int .i64 k, .slice (some ⟨g, 0, none⟩) l.length c, .int .i64 now] w fun e w' => ∃ g' c', e = .returned (.tuple #[.slice (some ⟨g', 0, none⟩) l'.length c', .int .i64 0]) ∧ Row w.heap.size w' g' c' l' ∧ Below w.heap.size w w' :=
  step_does hd hl hl2 h0 h1 hw _ c w hr.C hr.cap

end Go.Proofs.YtefflkmegodafaaDoor.PBlockKeeps
