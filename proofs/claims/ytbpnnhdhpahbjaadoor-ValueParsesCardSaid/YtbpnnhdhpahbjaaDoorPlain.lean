/-
  Plain definitions: a typed value of the program as Lean data, and what the functions of the package value and of its reference compute on it. No program in sight.
-/
import Derived.Lib.Bytealg
import Derived.WalkKit
namespace Go.Proofs.YtbpnnhdhpahbjaaDoor

/-- A value of the program: kind, number, text. -/
structure V where
  k : Int
  n : Int
  s : ByteArray
def V.val (v : V) : Value := .agg #[.int .i64 v.k, .int .i64 v.n, .string v.s]
def V.null : V := ⟨0, 0, ⟨#[]⟩⟩
def b2i (b : Bool) : Int := if b then 1 else 0
def V.bool (b : Bool) : V := ⟨3, b2i b, ⟨#[]⟩⟩
def V.num (n : Int) : V := ⟨1, n, ⟨#[]⟩⟩

def cmpI (a b : Int) : Int := if a < b then -1 else if b < a then 1 else 0
def cmpS (a b : ByteArray) : Int := Lib.compareBytes a.data.toList b.data.toList
def or3 (a b c : Int) : Int := if a != 0 then a else if b != 0 then b else c
def V.cmp (a b : V) : Int := or3 (cmpI a.k b.k) (cmpI a.n b.n) (cmpS a.s b.s)
/-- P19.1 -/
def V.right (v : V) : Bool :=
  if v.k = 0 then decide (v.n = 0) && v.s.toList.isEmpty
  else if v.k = 1 then decide (-549755813888 ≤ v.n) && decide (v.n ≤ 549755813887) && v.s.toList.isEmpty
  else if v.k = 2 then decide (v.n = 0) && decide (v.s.size ≤ 40)
  else if v.k = 3 then (decide (v.n = 0) || decide (v.n = 1)) && v.s.toList.isEmpty
  else false
/-- The fields are integers of 64 bits and a string of Go. -/
def V.Wf (v : V) : Prop := -9223372036854775808 ≤ v.n ∧ v.n ≤ 9223372036854775807
/-- The reference's comparison. -/
def V.rcmp (a b : V) : Int :=
  if a.k != b.k then cmpI a.k b.k else if Op.bytesLess a.s.toList b.s.toList then -1
  else if !Op.bytesLess a.s.toList b.s.toList && !(a.s.toList == b.s.toList) then 1 else cmpI a.n b.n
/-- What an operator says of the outcome of a comparison. -/
def testB (op c : Int) : Bool :=
  if op = 6 then decide (c = 0) else if op = 7 then decide (c ≠ 0) else if op = 8 then decide (c < 0) else if op = 9 then decide (c ≤ 0) else if op = 10 then decide (0 < c) else decide (0 ≤ c)
/-- P19.3, over a comparison. -/
def V.testBy (op : Int) (a b : V) (c : Int) : V × Int :=
  if op < 6 ∨ 11 < op then (V.null, 1) else if a.k = 0 ∨ b.k = 0 then (V.null, 0) else if a.k ≠ b.k then (V.null, 7) else (V.bool (testB op c), 0)
def V.pair (p : V × Int) : Value := .tuple #[p.1.val, .int .i64 p.2]
def V.logical (v : V) : Bool := decide (v.k = 0) || decide (v.k = 3)
instance : DecidableEq V := fun a b => by
  by_cases hk : a.k = b.k
  · by_cases hn : a.n = b.n
    · by_cases hs : a.s = b.s
      · exact isTrue (by cases a; cases b; simp_all)
      · exact isFalse (by intro h; exact hs (by rw [h]))
    · exact isFalse (by intro h; exact hn (by rw [h]))
  · exact isFalse (by intro h; exact hk (by rw [h]))
/-- Equality of values as the program's '==' tells it. -/
def V.same (a b : V) : Bool := decide (a = b)
theorem V.ext_iff (a b : V) : a = b ↔ a.k = b.k ∧ a.n = b.n ∧ a.s = b.s := by cases a; cases b; simp
theorem toList_inj (a b : ByteArray) : a.toList = b.toList ↔ a = b := by
  rw [ByteArray.toList_eq, ByteArray.toList_eq]
  obtain ⟨⟨x⟩⟩ := a; obtain ⟨⟨y⟩⟩ := b; simp
/-- P19.4: strong if one of the two is that, else null if one is null, else the opposite. -/
def V.decide2 (strong : Bool) (a b : V) : V × Int :=
  if !a.logical || !b.logical then (V.null, 7) else if a = V.bool strong ∨ b = V.bool strong then (V.bool strong, 0)
  else if a = V.null ∨ b = V.null then (V.null, 0) else (V.bool !strong, 0)
def V.not (a : V) : V × Int := if !a.logical then (V.null, 7) else if a.k = 3 then (⟨3, 1 - a.n, a.s⟩, 0) else (a, 0)

theorem andNot_one (n : Int) (h1 : -9223372036854775808 ≤ n) (h2 : n ≤ 9223372036854775807) : (bits .andNot .i64 n 1 = 0) ↔ (n = 0 ∨ n = 1) := by
  constructor
  · intro h
    obtain ⟨z, hz, hc⟩ : ∃ z : Nat, z = ((BitVec.ofInt 64 n) &&& ~~~(BitVec.ofInt 64 1)).toNat ∧ (if (true && decide ((z:Int) % 2^64 ≥ 2^(64-1))) = true then (z:Int) % 2^64 - 2^64 else (z:Int) % 2^64) = 0 := ⟨_, rfl, h⟩
    have hz64 : z < 2 ^ 64 := by rw [hz]; exact BitVec.isLt _
    simp only [BitVec.toNat_and, BitVec.toNat_not, BitVec.toNat_ofInt] at hz
    have e : ((1 : Int) % ↑(2 ^ 64 : Nat)).toNat = 1 := by decide
    rw [e] at hz
    generalize hm : (n % ↑(2 ^ 64 : Nat)).toNat = m at hz
    have hm' : m < 2 ^ 64 := by omega
    have hy0 : z = 0 := by
      split at hc <;> omega
    rw [hy0] at hz
    have h3 : (m &&& (2 ^ 64 - 1 - 1)) / 2 = m / 2 &&& (2 ^ 63 - 1) := by rw [Nat.and_div_two]
    rw [← hz, Nat.and_two_pow_sub_one_eq_mod] at h3
    omega
  · rintro (rfl | rfl) <;> decide
end Go.Proofs.YtbpnnhdhpahbjaaDoor
