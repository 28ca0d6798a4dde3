/-
  The plain words of layer 4 (num): what the program's functions and the reference's come to, over whole numbers. No Go and no memory in it.
-/
import Derived.WalkKit
import Derived.Laws.BitsAllLaws
import Derived.Laws.BitsLemmas
namespace Go.Proofs.YtefflkmegodafaaDoor.Num
open Go.RowKit

/-- a number wrapped into a type, as the program does it -/
def wrapT (t n : Int) : Int := if t = 1 then bits .and .i64 n 1 else if t = 2 then (n + 32768) % 65536 - 32768 else wrap32 n
def knownB (t : Int) : Bool := decide (1 ≤ t) && decide (t ≤ 4)
def fitsB (t n : Int) : Bool := knownB t && (wrapT t n == n)
/-- has an operation whose types are the bits of k the type t? -/
def hasB (k t : Int) : Bool := knownB t && (k / 2 ^ t.toNat % 2 == 1)

theorem i64_and1 (n : Int) : bits .and .i64 n 1 = n % 2 := by
  have e : (BitVec.ofInt 64 n &&& BitVec.ofInt 64 1).toNat = (n % 2).toNat := by
    rw [BitVec.toNat_and, BitVec.toNat_ofInt, BitVec.toNat_ofInt]
    have : ((1 : Int) % (2 ^ 64 : Nat)).toNat = 1 := by decide
    rw [this, Nat.and_one_is_mod]
    omega
  show IntKind.i64.wrap ((BitVec.ofInt 64 n &&& BitVec.ofInt 64 1).toNat : Nat) = n % 2
  rw [e, IntKind.wrap_i64]
  omega
theorem w16 (n : Int) : IntKind.i16.wrap n = (n + 32768) % 65536 - 32768 := by
  simp [IntKind.wrap, IntKind.bits, IntKind.signed]
  split <;> omega
theorem w64_16 (n : Int) : wrap64 (IntKind.i16.wrap n) = (n + 32768) % 65536 - 32768 := by
  rw [w16]; unfold wrap64; omega
theorem w64_32 (n : Int) : wrap64 (wrap32 n) = wrap32 n := by
  unfold wrap64 wrap32; omega

theorem known_of {t : Int} (h : knownB t = true) : t = 1 ∨ t = 2 ∨ t = 3 ∨ t = 4 := by
  simp [knownB] at h; omega

/-- the operations: which types, of one value, does it tell a truth -/
def opK (n : Int) : Int := if n = 1 ∨ n = 2 then 28 else if n = 3 ∨ n = 4 ∨ n = 5 then 12 else if n = 6 ∨ n = 7 ∨ n = 8 then 14 else if n = 9 ∨ n = 10 then 30 else if n = 16 then 14 else 28
def opOne (n : Int) : Bool := decide (15 ≤ n)
def opTruth (n : Int) : Bool := decide (9 ≤ n) && decide (n ≤ 14)
def flagI (b : Bool) : Int := if b then 1 else 0
/-- what an operation does, as the program does it -/
def opV (n a b : Int) : Int :=
  if n = 1 then wrap64 (a + b) else if n = 2 then wrap64 (a - b) else if n = 3 then wrap64 (a * b)
  else if n = 4 then wrap64 (a.tdiv b) else if n = 5 then a.tmod b
  else if n = 6 then bits .and .i64 a b else if n = 7 then bits .or .i64 a b else if n = 8 then bits .xor .i64 a b
  else if n = 9 then flagI (a == b) else if n = 10 then flagI (a != b) else if n = 11 then flagI (decide (a < b)) else if n = 12 then flagI (decide (a ≤ b))
  else if n = 13 then flagI (decide (b < a)) else if n = 14 then flagI (decide (b ≤ a))
  else if n = 15 then wrap64 (-a) else bits .xor .i64 (-1) a

/-- num.does -/
def doesV (n t : Int) (one : Bool) (a b : Int) : Int × Int :=
  if ¬ (1 ≤ n ∧ n ≤ 16) then (0, 40)
  else if opOne n != one then (0, 40)
  else if hasB (opK n) t = false then (0, 40)
  else if fitsB t a = false then (0, 1)
  else if fitsB t b = false then (0, 1)
  else if (n = 4 ∨ n = 5) ∧ b = 0 then (0, 41)
  else if opTruth n = true then (opV n a b, 0)
  else (wrapT t (opV n a b), 0)
/-- num.Result -/
def resultV (n t : Int) : Int × Int :=
  if ¬ (1 ≤ n ∧ n ≤ 16) then (0, 40)
  else if hasB (opK n) t = false then (0, 40)
  else if opTruth n = true then (1, 0)
  else (t, 0)

end Go.Proofs.YtefflkmegodafaaDoor.Num
