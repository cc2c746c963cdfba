/-
  Plain definitions and laws: the words of a value (P19.5), and the bits of a word. No program in sight.
-/
import Derived.Test.YtbpnnhdhpahbjaaDoorPlain
namespace Go.Proofs.YtbpnnhdhpahbjaaDoor
open Go.RowKit

theorem or_shift (x c : Int) (hx : 0 ≤ x) (hx2 : x < 281474976710656) (hc : 0 ≤ c) (hc2 : c < 256) : bits .or .i64 (x * 256) c = x * 256 + c := by
  obtain ⟨a, rfl⟩ := Int.eq_ofNat_of_zero_le hx
  obtain ⟨b, rfl⟩ := Int.eq_ofNat_of_zero_le hc
  have e : (BitVec.ofInt 64 ((a : Int) * 256) ||| BitVec.ofInt 64 (b : Int)).toNat = a * 256 + b := by
    simp only [BitVec.toNat_or, BitVec.toNat_ofInt]
    have e1 : (((a : Int) * 256) % ↑(2 ^ 64 : Nat)).toNat = a <<< 8 := by rw [Nat.shiftLeft_eq]; omega
    have e2 : ((b : Int) % ↑(2 ^ 64 : Nat)).toNat = b := by omega
    rw [e1, e2, ← Nat.shiftLeft_add_eq_or_of_lt (by omega), Nat.shiftLeft_eq]
  show IntKind.wrap .i64 (((BitVec.ofInt 64 ((a : Int) * 256) ||| BitVec.ofInt 64 (b : Int)).toNat : Nat) : Int) = _
  rw [e, IntKind.wrap_i64]
  omega
theorem or_zero (c : Int) (hc : 0 ≤ c) (hc2 : c < 256) : bits .or .i64 0 c = c := by
  have := or_shift 0 c (by omega) (by omega) hc hc2
  simpa using this
theorem wrap64_small (x : Int) (h0 : 0 ≤ x) (h1 : x < 281474976710656 * 256) : wrap64 x = x := IntWalk.wrap64_in x ⟨by omega, by omega⟩

def byteAt (u : ByteArray) (i : Nat) : Int := if h : i < u.size then (u[i].toNat : Int) else 0
theorem byteAt_of {u : ByteArray} {i : Nat} (h : i < u.size) : byteAt u i = (u[i].toNat : Int) := by rw [byteAt, dif_pos h]
theorem byteAt_ge {u : ByteArray} {i : Nat} (h : u.size ≤ i) : byteAt u i = 0 := by rw [byteAt, dif_neg (by omega)]
theorem byteAt_nonneg (u : ByteArray) (i : Nat) : 0 ≤ byteAt u i ∧ byteAt u i < 256 := by
  unfold byteAt; split
  · rename_i h; have := u[i].toNat_lt; omega
  · omega
/-- Four bytes, filled up with zeros, then how many there are. -/
def chunk (u : ByteArray) : Int := (((byteAt u 0 * 256 + byteAt u 1) * 256 + byteAt u 2) * 256 + byteAt u 3) * 256 + min (u.size : Int) 4
def textW : Nat → ByteArray → List Int
  | 0, _ => []
  | f + 1, u => chunk u :: if u.size < 4 then [] else textW f (u.extract 4 u.size)
/-- P19.5: the words of a value. -/
def V.words (v : V) : List Int :=
  if v.k = 1 then [1, v.n + 549755813888] else if v.k = 3 then [3, v.n] else if v.k = 0 then [0] else 2 :: textW (v.s.size + 1) v.s

/-- The first i bytes as one number. -/
def acc (u : ByteArray) : Nat → Int
  | 0 => 0
  | i + 1 => acc u i * 256 + byteAt u i
theorem acc_bound (u : ByteArray) : ∀ i, i ≤ 4 → 0 ≤ acc u i ∧ acc u i < 4294967296 := by
  intro i hi
  have h0 := byteAt_nonneg u 0; have h1 := byteAt_nonneg u 1; have h2 := byteAt_nonneg u 2; have h3 := byteAt_nonneg u 3
  obtain rfl | rfl | rfl | rfl | rfl : i = 0 ∨ i = 1 ∨ i = 2 ∨ i = 3 ∨ i = 4 := by omega
  all_goals (simp only [acc]; omega)
theorem acc_in (u : ByteArray) (i : Nat) (hi : i ≤ 3) (h : i < u.size) : bits .or .i64 (wrap64 (acc u i * 256)) (wrap64 (u[i].toNat : Int)) = acc u (i + 1) := by
  have hb := byteAt_nonneg u i
  have ha := acc_bound u i (by omega)
  rw [← byteAt_of h, wrap64_small _ (by omega) (by omega), wrap64_small _ (by omega) (by omega), or_shift _ _ ha.1 (by omega) hb.1 hb.2]
  rfl
theorem acc_out (u : ByteArray) (i : Nat) (hi : i ≤ 3) (h : u.size ≤ i) : wrap64 (acc u i * 256) = acc u (i + 1) := by
  have ha := acc_bound u i (by omega)
  rw [wrap64_small _ (by omega) (by omega)]
  simp [acc, byteAt_ge h]
theorem chunk_eq (u : ByteArray) (n : Int) (hn : n = min (u.size : Int) 4) : bits .or .i64 (wrap64 (acc u 4 * 256)) n = chunk u := by
  have ha := acc_bound u 4 (by omega)
  rw [wrap64_small _ (by omega) (by omega), or_shift _ _ ha.1 (by omega) (by omega) (by omega), hn]
  simp [acc, chunk]
theorem textW_fuel : ∀ (f g : Nat) (u : ByteArray), u.size < 4 * f → u.size < 4 * g → textW f u = textW g u
  | 0, _, _, h, _ => by omega
  | _, 0, _, _, h => by omega
  | f + 1, g + 1, u, h1, h2 => by
    simp only [textW]
    split
    · rfl
    · rw [textW_fuel f g (u.extract 4 u.size) (by simp; omega) (by simp; omega)]
end Go.Proofs.YtbpnnhdhpahbjaaDoor
