/-
  A region that draws its order, whose operations only read but for a last tail in one order, in a round of a range over a function, at the wide fence: walked once, in the order of the text.
-/
import Derived.StillTail
import Derived.StillTactics
import Derived.StillTailTactics
import Derived.OrdersIn
import Derived.RangeFuncCalls
import Derived.Test.YtdajedggennljaaProg
namespace Go.Proofs.Ytdajedggennljaa.Rnd

theorem uponIn_of_upon {P : Program} {o : Oper} {a : Act} {K : Act → World → Prop} {Q : Exit → Act → World → Prop} {r : Result Next} (l n : Nat) (h : o.upon P a K Q r) : o.uponIn (Fence.wide.inRound l) n P a K Q r := by
  cases r with
  | ok v w =>
    cases v with
    | value v => exact h
    | skip => exact h
    | defer d => exact h
    | enter f args => exact ⟨by simp [Fence.wide], CallsIn.inRound l (callsIn_wide.2 h)⟩
    | row row args => exact ⟨by simp [Fence.wide], fun c cs _ => let ⟨v, w', r, s⟩ := h c cs; ⟨v, w', r, stepsIn_wide.2 s⟩⟩
    | _ => exact False.elim h
  | halt e w => cases e <;> first | exact h | exact False.elim h

/-- no operation of a region defers a call -/
def noDefer (ops : Array Oper) : Prop := ∀ (i : Nat) (o : Oper), ops[i]? = some o → ∀ c, o.op ≠ .defer c

theorem wpOpIn_of {P : Program} {ops : Array Oper} {Q : Exit → Act → World → Prop} (l n : Nat) (hq : ¬ LetsOut Q) (hd : noDefer ops) {i : Nat} {K K' : Act → World → Prop} {a : Act} {w : World} (hK : ∀ a w, K a w → K' a w)
    (h : wpOp P ops Q i K a w) : wpOpIn (Fence.wide.inRound l) n P ops Q i K' a w := by
  have h' := wpOp_mono hK h
  unfold wpOp at h'
  unfold wpOpIn
  cases hi : ops[i]? with
  | none => rw [hi] at h'; exact h'
  | some o =>
    rw [hi] at h'
    simp only at h' ⊢
    split
    · rename_i hw
      rw [if_pos hw] at h'
      refine ⟨fun _ _ => trivial, ?_⟩
      have e := Oper.semAt_eq (Fence.wide.inRound l).round a.eval o (hd i o hi)
      rw [e]
      exact uponIn_of_upon l n (h'.resolve_right fun hh => hq hh.2)
    · rename_i hw
      rw [if_neg hw] at h'
      exact ⟨fun _ _ => trivial, h'⟩

theorem wpAnyIn_of {P : Program} {md : Region.Mode} {ops : Array Oper} {Q : Exit → Act → World → Prop} (l n : Nat) (hq : ¬ LetsOut Q) (hd : noDefer ops) : ∀ (g : Nat) (listed : Array Bool) (a : Act) (w : World), wpAny P md ops Q g listed a w →
    wpAnyIn (Fence.wide.inRound l) n P md ops Q g listed a w
  | 0, _, _, _, h => h
  | g + 1, _, _, _, h => ⟨h.1, fun i hi => wpOpIn_of l n hq hd (fun a w hh => wpAnyIn_of l n hq hd g _ a w hh) (h.2 i hi)⟩

/-- all orders of a region come to what the text's own order comes to, if the operations ahead of place n only read -/
theorem any_of_still {P : Program} {Q : Exit → Act → World → Prop} {a : Act} {w : World} {l : List Oper} (n : Nat) (hB : Region.lexTailB .any l.toArray n = true)
    (h : wpStill P l.toArray w (fun a' => wpList P l.toArray Q (l.drop n) a' w) (l.take n) a) : wpAny P .any l.toArray Q l.toArray.size (Array.replicate l.toArray.size false) a w := by
  obtain ⟨sel, big, sink, chain, lex⟩ : Region.noSelect l.toArray = true ∧ n < l.length ∧ Region.sinkB .any l.toArray n = true ∧ Region.chainB .any l.toArray n = true ∧ Region.lexHead .any l.toArray (l.toArray.size - n) n 0 (Array.replicate l.toArray.size false) = true := by
    simpa [Region.lexTailB, and_assoc] using hB
  have size : l.toArray.size = n + (l.length - n) := by simp; omega
  have len : (l.take n).length = n := List.length_take_of_le (by omega)
  have start : HeadInv .any l.toArray n (Array.replicate l.toArray.size false) :=
    ⟨Array.size_replicate, fun j _ _ hl => absurd ((getD_replicate_false _ j).symm.trans hl) (by decide), fun t _ ht => getD_in (by rw [Array.size_replicate]; exact ht) (getD_replicate_false _ t)⟩
  have head := wpAnyL_lex (md := .any) (g := l.toArray.size - n) sel sink chain (by simpa using big) (l.take n) 0 _ a
    (fun j hj => by rw [len] at hj; simp [hj]) (by rw [len]; omega) start (by rw [len]; exact lex) h
  have tail : ∀ (listed : Array Bool) (a' : Act), (Region.seqB .any l.toArray (l.toArray.size - n) n listed = true ∧ wpList P l.toArray Q (l.drop n) a' w) → wpAny P .any l.toArray Q (l.toArray.size - n) listed a' w := by
    intro listed a' ⟨seq, hl⟩
    have dl : (l.drop n).length = l.toArray.size - n := by simp
    have := wpAny_of_seq (md := .any) (Q' := Q) (l.drop n) n listed a' w (fun j => by simp [List.getElem?_drop]) (by rw [dl]; exact seq) hl
    rw [dl] at this
    exact this
  have whole := wpAny_of_head (Q' := Q) tail _ _ _ head
  rw [len, show n + (l.toArray.size - n) = l.toArray.size from by omega] at whole
  exact whole

theorem wpIn_round_tail {P : Program} {id : Nat} {Q : Exit → Act → World → Prop} {a : Act} {w : World} {l : List Oper} (n : Nat) {ro m : Nat} (hq : ¬ LetsOut Q) (hd : noDefer l.toArray) (hm : P.follows .mixedOrders = true) (hB : Region.lexTailB .any l.toArray n = true)
    (h : wpStill P l.toArray w.drew (fun a' => wpList P l.toArray Q (l.drop n) a' w.drew) (l.take n) a) : (Code.region id l.toArray true).wpIn (Fence.wide.inRound ro) m P Q a w :=
  wpIn_region_any hm (wpAnyIn_of ro m hq hd _ _ _ _ (any_of_still n hB h))

end Go.Proofs.Ytdajedggennljaa.Rnd
