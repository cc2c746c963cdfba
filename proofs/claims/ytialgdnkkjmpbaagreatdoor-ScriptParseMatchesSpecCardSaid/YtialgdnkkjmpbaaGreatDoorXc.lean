/-
  Walks: script.Check at the example of the documentation. Conditions: the variables of the program's text are there. The memory that was there is as it was.
-/
import Derived.Test.YtialgdnkkjmpbaaGreatDoorXb
import Derived.Test.YtialgdnkkjmpbaaGreatDoorWz
namespace Go.Proofs.YtialgdnkkjmpbaaGreatDoor
open Go.RowKit Go.Sort

set_option maxRecDepth 100000 in
set_option maxHeartbeats 8000000 in
theorem check_ex (cv av : Value) (w : World) (he : Env w) (h : ScAt w cv av exSc) : Calls Tryz.prog 17 #[scVal exSc cv av] w fun e w' => e = .returned (.tuple #[.int .i64 0, .int .i64 0]) ∧ Below w.heap.size w w' := by
  obtain ⟨hav, lvs, hlen, hcv, hlv⟩ := h
  have CB := Lib.hid (fun w he hv => findAct_any 35 tells35 av exSc.acts w he hv (by decide))
  have hbad : badAt 0 exSc.acts = -1 := by decide +kernel
  rw [hbad] at CB
  have HAV := Lib.hid hav
  obtain ⟨aa, ac, rfl, hac, _⟩ := hav
  obtain ⟨ca, cc, rfl, hcc, hcells⟩ := hcv
  obtain ⟨cb, co, rfl, hat⟩ := hcells (by decide)
  obtain ⟨lv, rfl⟩ : ∃ lv, lvs = [lv] := by
    match lvs, hlen with
    | [lv], _ => exact ⟨lv, rfl⟩
  have hl := hlv 0 ⟨2, [[98, 101, 103, 105, 110], [99, 111, 109, 109, 105, 116]]⟩ lv rfl rfl
  have HL := Lib.hid hl
  obtain ⟨la, lc, rfl, hlc, _⟩ := hl
  have HE := Lib.hid he
  have c0 : w.cell? ⟨cb, co, none⟩ = some (.int .i64 2) := hat 0 _ rfl
  have c1 : w.cell? ⟨cb, co + 1, none⟩ = some (.slice la 2 lc) := hat 1 _ rfl
  have C0 := Lib.hid c0
  have C1 := Lib.hid c1
  have C2 := Lib.hid (fun w he hl => new_ex la lc w he hl)
  have S0 : Hid (St w w []) := St.start w
  unfold scVal exSc
  simp only [List.length_cons, List.length_nil, Nat.reduceAdd]
  clear hat hcells hlv hlen he c0 c1 hbad
  go_enter Tryz.func17, Tryz.ntmps17
  go_wp2_with fail
  refine Calls.mono (plan_640 _) ?_
  rintro e w1 ⟨rfl, hb1⟩
  refine St.call (St.alloc (S0.out)) hb1 ?_
  intro S1
  clear hb1
  try (simp only [List.set_cons_zero, List.set_cons_succ, List.setIfInBounds_toArray, World.size_alloc] at S1)
  have F1 := S1.out.facts
  simp only [St.Facts, cellFacts, apartFacts, and_true] at F1
  go_wp2_with (go_at_call 32; refine Calls.mono (between_ok _ _ _ (by decide) (by decide) _) ?_; rintro e w' ⟨rfl, rfl⟩)
  refine wp_loop_rounds 2 ?_
  rw [rounds_succ]
  refine St.gen (St.laid (St.laid S1.out)) ?_
  intro w2 S2
  have SB : Hid (St w w2 [(w.heap.size, #[.int .i64 640, .int .i64 4, .int .i64 64, .int .i64 1, .int .i64 4, .slice (some ⟨cb, co, none⟩) 1 cc, .slice aa 5 ac], 28)]) := S2.out
  clear S1 F1 S2
  have x0 : w2.cell? ⟨cb, co, none⟩ = some (.int .i64 2) := SB.out.below.cell_kept C0.out
  have x1 : w2.cell? ⟨cb, co + 1, none⟩ = some (.slice la 2 lc) := SB.out.below.cell_kept C1.out
  have F2 := SB.out.facts
  simp only [St.Facts, cellFacts, apartFacts, and_true] at F2
  have hx : cb < w2.heap.size := block_lt_of_cell x0
  go_wp2_with fail
  have S3 := Lib.hid (St.laid SB.out (o := .cells #[.int .i64 2, .slice la 2 lc] 48))
  refine Calls.mono (C2.out _ (HE.out.kept S3.out.below) (HL.out.kept S3.out.below)) ?_
  rintro e w3 ⟨v, rfl, hb3⟩
  have S4 := Lib.hid (S3.out.kept hb3)
  have F4 := S4.out.facts
  simp only [St.Facts, cellFacts, apartFacts, and_true] at F4
  clear hb3 x0 x1 F2 hx S3 SB
  go_wp2_with fail
  rw [rounds_succ]
  go_wp2_with fail
  refine Calls.mono (CB.out _ (HE.out.kept S4.out.below) (HAV.out.kept S4.out.below)) ?_
  rintro e w5 ⟨rfl, hb5⟩
  have S5 := Lib.hid (S4.out.kept hb5)
  clear hb5 F4
  go_wp2_with fail
  go_returns
  exact ⟨rfl, S5.out.below⟩
end Go.Proofs.YtialgdnkkjmpbaaGreatDoor
