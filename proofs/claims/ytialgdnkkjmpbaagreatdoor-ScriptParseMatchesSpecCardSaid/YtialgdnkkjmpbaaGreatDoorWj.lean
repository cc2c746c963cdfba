/-
  Walks: the lines of a text, as the package script yields them. Conditions: those that each theorem names.
-/
import Derived.Test.YtialgdnkkjmpbaaGreatDoorWi
import Derived.Test.YtialgdnkkjmpbaaGreatDoorPlainA
import Derived.Test.YtialgdnkkjmpbaaGreatDoorKitB
import Derived.RangeFuncNested
import Derived.RangeFuncBound
import Derived.RangeFuncCalls
import Derived.RangeFuncLeaves
import Derived.Shelf.Abstract
import Derived.Shelf.RegionOpen
import Derived.OwnWalkIn
import Derived.TacticsInMore
import Derived.LoopNIn
import Derived.LoopIn
namespace Go.Proofs.YtialgdnkkjmpbaaGreatDoor
open Go.RowKit Go.Sort
attribute [local go_sem] Oper.semAt_some

theorem wideD (n : Nat) : Fence.wide.depth.isSome = true → 1 ≤ n := fun h => by simp [Fence.wide] at h
/-- How long the text in a cell is. -/
def sizeAt (bs : Nat) (w : World) : Nat := match w.cell? ⟨bs, 0, none⟩ with
  | some (.string s) => s.size
  | _ => 0
theorem sizeAt_eq {bs : Nat} {w : World} {t : Bytes} (h : w.heap[bs]? = some (.cells #[.string ⟨t.toArray⟩] 9 (0, 0))) : sizeAt bs w = t.length := by
  unfold sizeAt World.cell?
  rw [h]
  simp
  rfl
theorem cut_any (t line rest : Bytes) (whole : Bool) (hs : t.length ≤ 1000000) (hc : Lib.cut t [10] = (line, rest, whole)) (w : World) (he : Env w) :
    Calls Tryz.prog 40 #[.string ⟨t.toArray⟩, .string ⟨#[10]⟩] w fun e w' => e = .returned (.tuple #[.string ⟨line.toArray⟩, .string ⟨rest.toArray⟩, .bool whole]) ∧ ∃ k, w' = w.drewN k := by
  obtain ⟨m, hm⟩ := he.maxLen
  have := Tryz.strings_Cut ⟨t.toArray⟩ ⟨#[10]⟩ m w (by show t.toArray.size < _; simp; omega) hm
  simp only [hc] at this
  exact this
set_option maxRecDepth 100000 in
set_option maxHeartbeats 2000000 in
theorem lines1_in (n l bs : Nat) (J : Bytes → World → Prop) (Jx : World → Prop)
    (hJ : ∀ t W, J t W → W.heap[bs]? = some (.cells #[.string ⟨t.toArray⟩] 9 (0, 0)) ∧ Env W ∧ t.length ≤ 1000000)
    (hJd : ∀ t W k, J t W → J t (W.drewN k))
    (hY : ∀ t line rest whole W, J t W → t ≠ [] → lns t = (line, whole) :: lns rest → (∀ c ∈ line, c ≠ 10) → rest.length < t.length → line.length ≤ t.length → (whole = false → rest = []) →
      YieldAt Fence.wide (n - 1) Tryz.prog l #[.string ⟨line.toArray⟩, .bool whole] W fun e W' => (e = .returned (.bool true) ∧ W'.heap[bs]? = some (.cells #[.string ⟨t.toArray⟩] 9 (0, 0)) ∧ J rest (W'.setCell ⟨bs, 0, none⟩ (.string ⟨rest.toArray⟩))) ∨ (e = .returned (.bool false) ∧ Jx W'))
    (t : Bytes) (W : World) (h0 : J t W) :
    CallsIn Fence.wide n Tryz.prog 39 #[.func (.yield l) #[] #[], .pointer (some ⟨bs, 0, none⟩)] W fun e W' => (∃ v, e = .returned v) ∧ (J [] W' ∨ Jx W') := by
  have HJ := Lib.hid hJ
  have HD := Lib.hid hJd
  have HY := Lib.hid hY
  clear hJ hJd hY
  refine callsIn_of_wp Tryz.func39 rfl trivial ?_ rfl
  simp only [Tryz.ntmps39, List.size_toArray, List.length_cons, List.length_nil, Nat.reduceAdd, Nat.reduceSub, Array.replicate_succ, Array.replicate_zero, List.push_toArray, List.append_toArray, List.nil_append, List.cons_append]
  gi_wp2
  gi_loopw [3, 4, 5] (fun _ _ _ wr => ∃ t, Hid (J t wr)) (fun _ _ _ wr => sizeAt bs wr)
  case atStart => exact ⟨t, h0⟩
  case round =>
    obtain ⟨t, HT⟩ := hrel
    obtain ⟨hb, he, hl⟩ := HJ.out t wr HT.out
    have x0 : wr.cell? ⟨bs, 0, none⟩ = some (.string ⟨t.toArray⟩) := by simp only [World.cell?, hb]; rfl
    by_cases h : t = []
    · subst h
      gi_wp2
      go_end0
      exact ⟨⟨_, rfl⟩, .inl HT.out⟩
    · obtain ⟨line, rest, whole, hc, h1, h2, h3, h4, h5⟩ := cut_line t h
      have C := Lib.hid (cut_any t line rest whole hl hc wr he)
      have HN := Lib.hid h
      have e1 : t.isEmpty = false := by cases t with | nil => exact absurd rfl h | cons a r => rfl
      have e2 : (!t.isEmpty) = true := by rw [e1]; rfl
      have H1 := Lib.hid h1
      have H2 := Lib.hid h2
      have H5 := Lib.hid h5
      have HB := Lib.hid hb
      clear h h1 h2 h5 hc he hb
      gi_wp2
      refine ⟨trivial, wideD _, ?_⟩
      refine CallsIn.mono (callsIn_wide.2 C.out) ?_
      rintro e w1 ⟨rfl, k, rfl⟩
      have HT1 := Lib.hid (HD.out t wr k HT.out)
      obtain ⟨hb1, _, _⟩ := HJ.out t _ HT1.out
      have HB1 := Lib.hid hb1
      obtain ⟨fn, tmps, assign, body, hy, hR⟩ := HY.out t line rest whole _ HT1.out HN.out H1.out H2.out h3 h4 H5.out
      clear hb1 x0
      gi_wp2
      refine ⟨wideD _, hR.mono ?_⟩
      clear hy hR
      rintro e w2 (⟨rfl, hb2, hj2⟩ | ⟨rfl, hx2⟩)
      · have y0 : w2.cell? ⟨bs, 0, none⟩ = some (.string ⟨t.toArray⟩) := by simp only [World.cell?, hb2]; rfl
        have y1 : w2.frozen? ⟨bs, 0, none⟩ = false := by simp [World.frozen?, hb2]
        have HJ2 := Lib.hid hj2
        clear hb2 hj2
        gi_wp2
        go_roundw
        case rel => exact ⟨rest, HJ2.out⟩
        case measure =>
          rw [sizeAt_eq HB.out, sizeAt_eq (HJ.out rest _ HJ2.out).1]
          exact h3
      · have HX := Lib.hid hx2
        clear hx2
        gi_wp2
        refine bodyPost_ret (results_none rfl _ _ _) rfl ?_
        exact ⟨⟨_, rfl⟩, .inr HX.out⟩
end Go.Proofs.YtialgdnkkjmpbaaGreatDoor
