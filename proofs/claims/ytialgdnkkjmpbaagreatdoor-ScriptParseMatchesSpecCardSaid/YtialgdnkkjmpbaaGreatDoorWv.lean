/-
  Walks: the package sql's Check at statements that have a kind and nothing else. The memory that was there is as it was.
-/
import Derived.Test.YtialgdnkkjmpbaaGreatDoorWu
import Derived.RegionTactic
import Derived.ChangeAlike
namespace Go.Proofs.YtialgdnkkjmpbaaGreatDoor
open Go.RowKit Go.Sort

def zEx : Array Value := #[.int .i64 0, .string ⟨#[]⟩, .string ⟨#[]⟩, .int .i64 0, .int .i64 0, .string ⟨#[]⟩, .slice none 0 0]
/-- The cells of a statement with a kind. -/
def stVals (k : Int) : Array Value :=
  #[.int .i64 k, .string ⟨#[]⟩, .string ⟨#[]⟩, .string ⟨#[]⟩, .slice none 0 0, .slice none 0 0, .slice none 0 0, .string ⟨#[]⟩, .int .i64 0, .bool false, .slice none 0 0, .bool false, .slice none 0 0, .slice none 0 0, .int .i64 0, .string ⟨#[]⟩, .string ⟨#[]⟩, .int .i64 0, .int .i64 0, .string ⟨#[]⟩, .slice none 0 0,
    .bool false, .slice none 0 0, .slice none 0 0, .slice none 0 0, .int .i64 0, .string ⟨#[]⟩, .string ⟨#[]⟩, .int .i64 0, .int .i64 0, .string ⟨#[]⟩, .slice none 0 0, .slice none 0 0, .slice none 0 0, .int .i64 0, .int .i64 0]
set_option maxRecDepth 100000 in
set_option maxHeartbeats 1000000 in
theorem isZero_zero (w : World) : Calls Tryz.prog 173 #[.agg zEx] w fun e w' => e = .returned (.bool true) ∧ Below w.heap.size w w' := by
  unfold zEx
  go_enter Tryz.func173, Tryz.ntmps173
  go_wp2_with fail
  go_returns
  exact ⟨rfl, by go_grown⟩
set_option maxRecDepth 100000 in
set_option maxHeartbeats 4000000 in
theorem unused_zero (k : Int) (w : World) : Calls Tryz.prog 133 #[.agg (stVals k)] w fun e w' => e = .returned (.bool true) ∧ Below w.heap.size w w' := by
  unfold stVals
  have C := Lib.hid isZero_zero
  unfold zEx at C
  have S0 : Hid (St w w []) := St.start w
  have ec := cat_eq [] []
  simp only [List.append_nil] at ec
  go_enter Tryz.func133, Tryz.ntmps133
  go_wp2_with fail
  go_region
  · go_wp2_with fail
    refine Calls.mono (C.out _) ?_
    rintro e w1 ⟨rfl, hb1⟩
    have S1 := Lib.hid ((St.alloc (St.alloc (St.alloc S0.out (cs := stVals k) (t := 130)) (cs := #[.bool false, .slice none 0 0, .slice none 0 0, .slice none 0 0, .int .i64 0, .string ⟨#[]⟩, .string ⟨#[]⟩, .int .i64 0, .int .i64 0, .string ⟨#[]⟩, .slice none 0 0, .slice none 0 0, .slice none 0 0, .int .i64 0]) (t := 128)) (cs := #[.string ⟨#[]⟩, .slice none 0 0, .slice none 0 0, .slice none 0 0]) (t := 116)).kept ((Below.drewN _ _ 1).step hb1))
    simp only [World.size_alloc, stVals] at S1
    clear hb1
    have F1 := S1.out.facts
    simp only [St.Facts, cellFacts, apartFacts, and_true] at F1
    go_wp2_with fail
    refine Calls.mono (C.out _) ?_
    rintro e w2 ⟨rfl, hb2⟩
    have S2 := Lib.hid (S1.out.kept hb2)
    have F2 := S2.out.facts
    simp only [St.Facts, cellFacts, apartFacts, and_true] at F2
    clear hb2 F1 S1
    go_wp2_with fail
    go_returns
    exact ⟨rfl, S2.out.below⟩
  · go_wp2_with fail
    refine Calls.mono (C.out _) ?_
    rintro e w1 ⟨rfl, hb1⟩
    have S1 := Lib.hid ((St.alloc (St.alloc (St.alloc S0.out (cs := stVals k) (t := 130)) (cs := #[.string ⟨#[]⟩, .slice none 0 0, .slice none 0 0, .slice none 0 0]) (t := 116)) (cs := #[.bool false, .slice none 0 0, .slice none 0 0, .slice none 0 0, .int .i64 0, .string ⟨#[]⟩, .string ⟨#[]⟩, .int .i64 0, .int .i64 0, .string ⟨#[]⟩, .slice none 0 0, .slice none 0 0, .slice none 0 0, .int .i64 0]) (t := 128)).kept ((Below.drewN _ _ 1).step hb1))
    simp only [World.size_alloc, stVals] at S1
    clear hb1
    have F1 := S1.out.facts
    simp only [St.Facts, cellFacts, apartFacts, and_true] at F1
    go_wp2_with fail
    refine Calls.mono (C.out _) ?_
    rintro e w2 ⟨rfl, hb2⟩
    have S2 := Lib.hid (S1.out.kept hb2)
    have F2 := S2.out.facts
    simp only [St.Facts, cellFacts, apartFacts, and_true] at F2
    clear hb2 F1 S1
    go_wp2_with fail
    go_returns
    exact ⟨rfl, S2.out.below⟩
end Go.Proofs.YtialgdnkkjmpbaaGreatDoor
