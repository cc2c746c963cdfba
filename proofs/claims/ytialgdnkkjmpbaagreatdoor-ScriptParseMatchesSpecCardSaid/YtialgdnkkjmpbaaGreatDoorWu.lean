/-
  Walks: the parser of the package sql at one word: sees, takes. The memory that was there is as it was, but for the parser's own cell.
-/
import Derived.Test.YtialgdnkkjmpbaaGreatDoorWt
namespace Go.Proofs.YtialgdnkkjmpbaaGreatDoor
open Go.RowKit Go.Sort

/-- The parser: the one token of a word is to come. -/
structure PsAt (wd : Bytes) (w : World) (pb : Nat) : Prop where
  ex : ∃ tb oo cap n, w.heap[pb]? = some (.cells #[.slice (some ⟨tb, oo, none⟩) 1 cap, .int .i64 n] 151 (0, 0)) ∧ 1 ≤ cap ∧ CellsAt w tb oo (tokCells wd)
/-- The parser: nothing is to come. -/
def PsEnd (w : World) (pb : Nat) : Prop := ∃ a cap n, w.heap[pb]? = some (.cells #[.slice a 0 cap, .int .i64 n] 151 (0, 0))
theorem PsAt.kept {wd : Bytes} {w w' : World} {pb : Nat} (h : PsAt wd w pb) (hb : Below w.heap.size w w') : PsAt wd w' pb := by
  obtain ⟨tb, oo, cap, n, h1, h2, h3⟩ := h.ex
  exact ⟨tb, oo, cap, n, hb.blk_kept h1, h2, h3.kept hb⟩
theorem PsEnd.kept {w w' : World} {pb : Nat} (h : PsEnd w pb) (hb : Below w.heap.size w w') : PsEnd w' pb := by
  obtain ⟨a, cap, n, h1⟩ := h
  exact ⟨a, cap, n, hb.blk_kept h1⟩
theorem containsOne (s wd : Bytes) : Lib.containsS [(⟨s.toArray⟩ : ByteArray)] ⟨wd.toArray⟩ = decide (wd = s) := by
  rw [Bool.eq_iff_iff, Lib.containsS_iff, decide_eq_true_iff]
  simp
set_option maxRecDepth 100000 in
set_option maxHeartbeats 2000000 in
theorem sees_tok (wd s : Bytes) (pb nb : Nat) (cap2 : Nat) (w : World) (h : PsAt wd w pb) (hs : w.heap[nb]? = some (.cells #[.string ⟨s.toArray⟩] 9 (0, 0))) :
    Calls Tryz.prog 160 #[.pointer (some ⟨pb, 0, none⟩), .slice (some ⟨nb, 0, none⟩) 1 cap2] w fun e w' => e = .returned (.tuple #[.string ⟨wd.toArray⟩, .bool (decide (wd = s))]) ∧ Below w.heap.size w w' := by
  obtain ⟨tb, oo, cap, n, h1, h2, h3⟩ := h.ex
  have F := cellFacts_of h1 [.slice (some ⟨tb, oo, none⟩) 1 cap, .int .i64 n] 0 (fun j => by simp)
  simp only [cellFacts, and_true] at F
  have t0 : w.cell? ⟨tb, oo, none⟩ = some (.int .i64 1) := h3 0 _ rfl
  have y0 : ∀ (d : Nat) (os : Array Obj), (grow (redrawn w d) os).cell? ⟨pb, 0, none⟩ = some (.slice (some ⟨tb, oo, none⟩) 1 cap) := fun d os => (below_regrown w d os).cell_kept F.1.1
  have y1 : ∀ (d : Nat) (os : Array Obj), (grow (redrawn w d) os).cell? ⟨tb, oo + 2, none⟩ = some (.string ⟨wd.toArray⟩) := fun d os => (h3.kept (below_regrown w d os)) 2 _ rfl
  have C : Hid (∀ (d : Nat) (os : Array Obj), Calls Tryz.prog 207 #[.slice (some ⟨nb, 0, none⟩) 1 cap2, .string ⟨wd.toArray⟩] (grow (redrawn w d) os) fun e w' => e = .returned (.bool (decide (wd = s))) ∧ Laid (grow (redrawn w d) os) w') := fun d os => by
    refine (Tryz.slices_Contains_string nb 0 1 cap2 [⟨s.toArray⟩] ⟨wd.toArray⟩ _ (by simp) (by decide) (fun j hj => ?_)).mono ?_
    · have : j = 0 := by simp at hj; exact hj
      subst this
      have := (below_regrown w d os).blk_kept hs
      simp only [World.cell?, this]; rfl
    · rintro e w' ⟨rfl, rfl⟩
      refine ⟨?_, Below.refl _ _⟩
      rw [List.take_of_length_le (by simp), containsOne]
  clear h h1 h3 hs
  generalize decide (wd = s) = b at *
  go_enter Tryz.func160, Tryz.ntmps160
  go_wp2_with fail
  refine wp_region_mixed 16 [(0, false), (1, false), (2, false), (3, false), (4, false), (5, false), (6, false), (7, false), (8, false), (9, false), (10, false), (11, false), (12, false), (13, false), (14, false), (15, false)] (by kernel_rfl) (by kernel_rfl) ?_
  repeat (refine wpM_mild rfl (fun K hK => ?_); go_simp; first | (refine hK _ ?_; clear hK K) | (apply Exists.intro; refine ⟨fun _ => ?_, hK _ ?_⟩; (exact C.out _ _); clear hK K))
  refine wpM_tail ?_
  intro w2 hb2 _
  have HB2 := Lib.hid hb2
  clear hb2 y0 y1 C
  simp only [List.drop_succ_cons, List.drop_zero]
  go_wp2_with fail
  go_returns
  exact ⟨rfl, HB2.out⟩
set_option maxRecDepth 100000 in
theorem sees_end (v : Value) (pb : Nat) (w : World) (h : PsEnd w pb) :
    Calls Tryz.prog 160 #[.pointer (some ⟨pb, 0, none⟩), v] w fun e w' => e = .returned (.tuple #[.string ⟨#[]⟩, .bool false]) ∧ w = w' := by
  obtain ⟨a, cap, n, h1⟩ := h
  have F := cellFacts_of h1 [.slice a 0 cap, .int .i64 n] 0 (fun j => by simp)
  simp only [cellFacts, and_true] at F
  clear h1
  go_enter Tryz.func160, Tryz.ntmps160
  go_wp2_with fail
  go_returns
  exact ⟨rfl, rfl⟩
set_option maxRecDepth 100000 in
theorem takes_end (v : Value) (pb : Nat) (w : World) (h : PsEnd w pb) :
    Calls Tryz.prog 98 #[.pointer (some ⟨pb, 0, none⟩), v] w fun e w' => e = .returned (.bool false) ∧ w = w' := by
  have C := Lib.hid (sees_end v pb w h)
  clear h
  go_enter Tryz.func98, Tryz.ntmps98
  go_wp2_with fail
  refine Calls.mono C.out ?_
  rintro e w1 ⟨rfl, rfl⟩
  go_wp2_with fail
  go_returns
  exact ⟨rfl, rfl⟩
set_option maxRecDepth 100000 in
theorem takes_no (wd s : Bytes) (hne : wd ≠ s) (pb nb : Nat) (cap2 : Nat) (w : World) (h : PsAt wd w pb) (hs : w.heap[nb]? = some (.cells #[.string ⟨s.toArray⟩] 9 (0, 0))) :
    Calls Tryz.prog 98 #[.pointer (some ⟨pb, 0, none⟩), .slice (some ⟨nb, 0, none⟩) 1 cap2] w fun e w' => e = .returned (.bool false) ∧ Below w.heap.size w w' := by
  have C := Lib.hid (sees_tok wd s pb nb cap2 w h hs)
  rw [decide_eq_false hne] at C
  clear h hs hne
  go_enter Tryz.func98, Tryz.ntmps98
  go_wp2_with fail
  refine Calls.mono C.out ?_
  rintro e w1 ⟨rfl, hb1⟩
  have HB1 := Lib.hid hb1
  clear hb1
  go_wp2_with fail
  go_returns
  exact ⟨rfl, HB1.out⟩
set_option maxRecDepth 100000 in
set_option maxHeartbeats 1000000 in
theorem takes_yes (wd : Bytes) (pb nb : Nat) (cap2 : Nat) (w : World) (h : PsAt wd w pb) (hs : w.heap[nb]? = some (.cells #[.string ⟨wd.toArray⟩] 9 (0, 0))) :
    Calls Tryz.prog 98 #[.pointer (some ⟨pb, 0, none⟩), .slice (some ⟨nb, 0, none⟩) 1 cap2] w fun e w' => e = .returned (.bool true) ∧ PsEnd w' pb ∧ Turn (fun k => k = pb) w w' := by
  have C := Lib.hid (sees_tok wd wd pb nb cap2 w h hs)
  rw [decide_eq_true rfl] at C
  have HP := Lib.hid h
  clear h hs
  go_enter Tryz.func98, Tryz.ntmps98
  go_wp2_with fail
  refine Calls.mono C.out ?_
  rintro e w1 ⟨rfl, hb1⟩
  obtain ⟨tb, oo, cap, n, h1, h2, h3⟩ := (HP.out.kept hb1).ex
  have H1 := Lib.hid h1
  have HB1 := Lib.hid hb1
  have F := cellFacts_of h1 [.slice (some ⟨tb, oo, none⟩) 1 cap, .int .i64 n] 0 (fun j => by simp)
  simp only [cellFacts, and_true] at F
  clear h1 h3 hb1 C
  have ht : ∀ v, Turn (fun k => k = pb) w (w1.setCell ⟨pb, 0, none⟩ v) := fun v => (Turn.of_below HB1.out).setCell (.inl rfl)
  have hblk : ∀ v, (w1.setCell ⟨pb, 0, none⟩ v).heap[pb]? = some (.cells #[v, .int .i64 n] 151 (0, 0)) := fun v => by simp [World.setCell, Array.getElem?_modify, H1.out]
  have HT := Lib.hid ht
  have HK := Lib.hid hblk
  clear ht hblk
  by_cases hc : cap = 1
  · go_wp2_with fail
    go_returns
    exact ⟨rfl, ⟨_, _, n, HK.out _⟩, HT.out _⟩
  · go_wp2_with fail
    go_returns
    exact ⟨rfl, ⟨_, _, n, HK.out _⟩, HT.out _⟩
end Go.Proofs.YtialgdnkkjmpbaaGreatDoor
