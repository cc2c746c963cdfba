/-
  Walks: root.Plan at 640 lines; the closure of script.Check that compares. The memory that was there is as it was.
-/
import Derived.Test.YtialgdnkkjmpbaaGreatDoorWn
namespace Go.Proofs.YtialgdnkkjmpbaaGreatDoor
open Go.RowKit Go.Sort

theorem between_ok (n a b : Int) (h1 : a ≤ n) (h2 : n ≤ b) (w : World) : Calls Tryz.prog 32 #[.int .i64 n, .int .i64 a, .int .i64 b] w fun e w' => e = .returned (.bool true) ∧ w = w' := by
  go_enter Tryz.func32, Tryz.ntmps32
  go_wp2
  go_returns
  exact ⟨rfl, rfl⟩
theorem plan1_any (n m : Int) (b : Nat) (h0 : 0 ≤ n ∧ n ≤ 1000000) (h1 : 0 ≤ m ∧ m ≤ 1000000) (w : World) (hb : w.heap[b]? = some (.cells #[.int .i64 m] 3 (0, 0))) : Calls Tryz.prog 55 #[.int .i64 n, .pointer (some ⟨b, 0, none⟩)] w fun e w' => e = .returned (.int .i64 m) ∧ w' = w.setCell ⟨b, 0, none⟩ (.int .i64 (m + n)) := by
  have F := cellFacts_of hb [.int .i64 m] 0 (fun j => by simp)
  simp only [cellFacts, and_true] at F
  obtain ⟨a0, a1⟩ := h0
  obtain ⟨c0, c1⟩ := h1
  clear hb
  go_enter Tryz.func55, Tryz.ntmps55
  go_wp2
  go_returns
  exact ⟨rfl, rfl⟩
set_option maxRecDepth 100000 in
set_option maxHeartbeats 2000000 in
theorem plan_640 (w : World) : Calls Tryz.prog 31 #[.int .i64 640] w fun e w' => e = .returned (.tuple #[.agg #[.int .i64 640, .int .i64 2, .int .i64 40, .int .i64 42, .int .i64 16, .int .i64 58, .int .i64 64, .int .i64 36], .int .i64 0]) ∧ Below w.heap.size w w' := by
  have hmf : ∀ (fn : Fn) (first cap : Array Value) (w : World), (Instr.makeFunc fn first cap).run Tryz.prog w = .ok (.func fn first cap) w := fun _ _ _ _ => rfl
  go_enter Tryz.func31, Tryz.ntmps31
  go_wp2
  exact bodyPost_ret (v := .tuple #[.agg #[.int .i64 640, .int .i64 2, .int .i64 40, .int .i64 42, .int .i64 16, .int .i64 58, .int .i64 64, .int .i64 36], .int .i64 0]) (by simp [results, Tryz.results31, go_sem]; decide) rfl ⟨rfl, by go_grown⟩
end Go.Proofs.YtialgdnkkjmpbaaGreatDoor
