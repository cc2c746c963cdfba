/-
  The walk of the reference's Digits
-/
import Derived.Test.YtbpnnhdhpahbjaaDoorWo
import Derived.Lib.ItoaNum
import Derived.Laws.Concat
namespace Go.Proofs.YtbpnnhdhpahbjaaDoor
open Go.RowKit Go.Sort

theorem tmod_neg (m : Nat) : Int.tmod (-(m : Int)) 10 = -((m % 10 : Nat) : Int) := by rw [Int.neg_tmod]; rfl
theorem tdiv_neg (m : Nat) : Int.tdiv (-(m : Int)) 10 = -((m / 10 : Nat) : Int) := by rw [Int.neg_tdiv]; rfl
theorem conv_byte (d : Nat) (h : d < 10) (w : World) : (convert 3 5 (.int .i64 (48 + (d : Int)))).run Tryd.prog w = .ok (.int .u8 ((UInt8.ofNat (48 + d)).toNat : Int)) w := by
  obtain rfl | rfl | rfl | rfl | rfl | rfl | rfl | rfl | rfl | rfl : d = 0 ∨ d = 1 ∨ d = 2 ∨ d = 3 ∨ d = 4 ∨ d = 5 ∨ d = 6 ∨ d = 7 ∨ d = 8 ∨ d = 9 := by omega
  all_goals kernel_rfl

theorem decLen_pow (k : Nat) : ∀ u : Nat, u < 10 ^ (k + 1) → (Lib.decDigits u).length ≤ k + 1 := by
  induction k with
  | zero => intro u h; rw [Lib.decDigits, dif_pos (by omega)]; simp
  | succ k ih =>
    intro u h
    rw [Lib.decDigits]
    split
    · simp
    · have := ih (u / 10) (by rw [Nat.pow_succ] at h; omega)
      simp; omega
theorem decLen (u : Nat) (h : u ≤ 1000000000000000) : (Lib.decDigits u).length ≤ 16 := decLen_pow 15 u (by omega)
def digC (m : Nat) : UInt8 := UInt8.ofNat (48 + m % 10)
theorem digC_small {m : Nat} (h : m < 10) : digC m = UInt8.ofNat (48 + m) := by unfold digC; rw [Nat.mod_eq_of_lt h]
theorem dec_big {m : Nat} (h : ¬ m < 10) : Lib.decDigits m = Lib.decDigits (m / 10) ++ [digC m] := by rw [Lib.decDigits, dif_neg h]; rfl
theorem conv_one (o m : Nat) (w : World) (h : w.cell? ⟨o, 0, none⟩ = some (.int .u8 (48 + (m : Int) % 10))) : (convert 63 9 (.slice (some ⟨o, 0, none⟩) 1 1)).run Tryd.prog w = .ok (.string ⟨#[digC m]⟩) w :=
  run_convert_bytes_back w 63 9 5 ⟨o, 0, none⟩ 1 [digC m] Tryd.underlying63 Tryd.underlying5 Tryd.underlying9 (fun j hj => by
    obtain rfl : j = 0 := by simp at hj; omega
    rw [addr_add]
    simp only [List.getElem_cons_zero]
    rw [h]
    simp [digC]
    omega)
set_option maxRecDepth 100000 in
theorem count_any (m : Nat) : m ≤ 1000000000000000 → ∀ w : World, Calls Tryd.prog 75 #[.int .i64 (-(m : Int))] w fun e w' => e = .returned (.string ⟨(Lib.decDigits m).toArray⟩) ∧ Below w.heap.size w w' := by
  induction m using Nat.strongRecOn with
  | _ m ih =>
  intro hm w
  have IH := Lib.hid ih
  clear ih
  have hd : m % 10 < 10 := Nat.mod_lt _ (by decide)
  have t1 := tmod_neg m
  have t2 := tdiv_neg m
  have c1 : Hid (∀ o (w' : World), w'.cell? ⟨o, 0, none⟩ = some (.int .u8 (48 + (m : Int) % 10)) → (convert 63 9 (.slice (some ⟨o, 0, none⟩) 1 1)).run Tryd.prog w' = .ok (.string ⟨#[digC m]⟩) w') := fun o w' h => conv_one o m w' h
  have c2 := c1.out w.heap.size (w.alloc (.cells #[.int .u8 (48 + (m : Int) % 10)] 5)) (by go_cell)
  by_cases h10 : m < 10
  · go_enter Tryd.func75, Tryd.ntmps75
    go_wp2_with fail
    go_returns
    refine ⟨?_, by go_grown⟩
    rw [Lib.decDigits, dif_pos h10, ← digC_small h10]
    rfl
  · have hz := fun w => run_string_add_lists (P := Tryd.prog) (w := w) (Lib.decDigits (m / 10)) [digC m] (by have := decLen (m / 10) (by omega); omega) (by simp)
    have IH1 := Lib.hid (fun w => IH.out (m / 10) (by omega) (by omega) w)
    have ed : -((m : Int) / 10) = -((m / 10 : Nat) : Int) := by omega
    go_enter Tryd.func75, Tryd.ntmps75
    go_wp2_with fail
    refine (IH1.out _).mono ?_
    rintro e w1 ⟨rfl, hb1⟩
    have HB1 := Lib.hid hb1
    clear hb1
    go_wp2_with fail
    go_returns
    refine ⟨?_, ?_⟩
    · rw [dec_big h10]
      rfl
    · exact ((Below.refl _ w).alloc (Nat.le_refl _) _).trans (HB1.out.mono (by simp))

theorem digits_any (n : Int) (h0 : -1000000000000000 ≤ n) (h1 : n ≤ 1000000000000000) (w : World) : Calls Tryd.prog 56 #[.int .i64 n] w fun e w' => e = .returned (.string ⟨(Lib.itoa n).toArray⟩) ∧ Below w.heap.size w w' := by
  by_cases hn : n < 0
  · obtain ⟨m, rfl⟩ : ∃ m : Nat, n = -(m : Int) := ⟨n.natAbs, by omega⟩
    have C := Lib.hid (fun w => count_any m (by omega) w)
    have hz := fun w => run_string_add_lists (P := Tryd.prog) (w := w) [45] (Lib.decDigits m) (by simp) (by have := decLen m (by omega); omega)
    have e1 : Lib.itoa (-(m : Int)) = 45 :: Lib.decDigits m := by unfold Lib.itoa; rw [if_pos hn]; simp
    rw [e1]
    clear e1
    go_enter Tryd.func56, Tryd.ntmps56
    go_wp2_with fail
    refine (C.out _).mono ?_
    rintro e w1 ⟨rfl, hb1⟩
    have HB1 := Lib.hid hb1
    clear hb1
    go_wp2_with fail
    go_returns
    exact ⟨by simp, HB1.out⟩
  · obtain ⟨m, rfl⟩ : ∃ m : Nat, n = (m : Int) := ⟨n.natAbs, by omega⟩
    have C := Lib.hid (fun w => count_any m (by omega) w)
    have e1 : Lib.itoa (m : Int) = Lib.decDigits m := by unfold Lib.itoa; rw [if_neg hn]; simp
    rw [e1]
    clear e1
    go_enter Tryd.func56, Tryd.ntmps56
    go_wp2_with fail
    refine (C.out _).mono ?_
    rintro e w1 ⟨rfl, hb1⟩
    have HB1 := Lib.hid hb1
    clear hb1
    go_wp2_with fail
    go_returns
    exact ⟨rfl, HB1.out⟩
end Go.Proofs.YtbpnnhdhpahbjaaDoor
