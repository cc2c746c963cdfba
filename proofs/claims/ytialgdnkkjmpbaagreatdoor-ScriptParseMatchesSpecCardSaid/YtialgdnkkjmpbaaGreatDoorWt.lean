/-
  Walks: the package sql at one word of its own: token, Tokens. Conditions: the variables of the program's text are there. The memory that was there is as it was.
-/
import Derived.Test.YtialgdnkkjmpbaaGreatDoorWr
import Derived.Test.YtialgdnkkjmpbaaGreatDoorWl
namespace Go.Proofs.YtialgdnkkjmpbaaGreatDoor
open Go.RowKit Go.Sort

def sqlWords : Bytes := [32, 97, 100, 100, 32, 97, 110, 100, 32, 97, 115, 32, 97, 115, 99, 32, 98, 101, 103, 105, 110, 32, 98, 111, 111, 108, 32, 98, 121, 32, 99, 104, 101, 99, 107, 32, 99, 111, 108, 117, 109, 110, 32, 99, 111, 109, 109, 105, 116, 32, 99, 111, 117, 110, 116, 32, 99, 114, 101, 97, 116, 101, 32, 100, 101, 108, 101, 116, 101, 32, 100, 101, 115, 99, 32, 100, 105, 115, 116, 105, 110, 99, 116, 32, 100, 114, 111, 112, 32, 102, 97, 108, 115, 101, 32, 102, 114, 111, 109, 32, 103, 114, 111, 117, 112, 32, 105, 110, 100, 101, 120, 32, 105, 110, 115, 101, 114, 116, 32, 105, 110, 116, 32, 105, 110, 116, 111, 32, 105, 115, 32, 106, 111, 105, 110, 32, 107, 101, 121, 32, 108, 105, 109, 105, 116, 32, 109, 97, 120, 32, 109, 105, 110, 32, 110, 111, 116, 32, 110, 117, 108, 108, 32, 111, 110, 32, 111, 110, 108, 121, 32, 111, 114, 32, 111, 114, 100, 101, 114, 32, 114, 101, 97, 100, 32, 114, 101, 108, 101, 97, 115, 101, 32, 114, 111, 108, 108, 98, 97, 99, 107, 32, 115, 97, 118, 101, 112, 111, 105, 110, 116, 32, 115, 101, 108, 101, 99, 116, 32, 115, 101, 114, 105, 97, 108, 105, 122, 97, 98, 108, 101, 32, 115, 101, 116, 32, 115, 117, 109, 32, 116, 97, 98, 108, 101, 32, 116, 101, 120, 116, 32, 116, 111, 32, 116, 114, 117, 101, 32, 117, 110, 105, 113, 117, 101, 32, 117, 112, 100, 97, 116, 101, 32, 118, 97, 108, 117, 101, 115, 32, 119, 104, 101, 114, 101, 32]
/-- A word of the language. -/
structure SqlWord (wd : Bytes) : Prop where
  low : ∀ c ∈ wd, lowB c = true
  ne : wd ≠ []
  len : wd.length ≤ 20
  has : Lib.contains sqlWords (32 :: (wd ++ [32])) = true
theorem SqlWord.asc {wd : Bytes} (h : SqlWord wd) : ∀ c ∈ wd, c.toNat < 128 := fun c hc => by
  have := h.low c hc
  simp [lowB] at this
  omega
theorem word_begin : SqlWord [98, 101, 103, 105, 110] := ⟨by decide +kernel, by simp, by simp, by decide +kernel⟩
theorem word_commit : SqlWord [99, 111, 109, 109, 105, 116] := ⟨by decide +kernel, by simp, by simp, by decide +kernel⟩
theorem words_len : sqlWords.length = 286 := by decide +kernel
theorem contains_word (wd : Bytes) (hw : SqlWord wd) (w : World) (he : Env w) : Calls Tryz.prog 50 #[.string ⟨sqlWords.toArray⟩, .string ⟨(32 :: (wd ++ [32])).toArray⟩] w fun e w' => e = .returned (.bool true) ∧ w = w' := by
  obtain ⟨m, hm⟩ := he.maxLen
  refine (Tryz.strings_Contains ⟨sqlWords.toArray⟩ ⟨(32 :: (wd ++ [32])).toArray⟩ m w (by rw [show (⟨sqlWords.toArray⟩ : ByteArray).size = sqlWords.length from rfl, words_len]; decide) hm).mono ?_
  rintro e w' ⟨rfl, rfl⟩
  exact ⟨by rw [show (⟨sqlWords.toArray⟩ : ByteArray).data.toList = sqlWords from rfl, show (⟨(32 :: (wd ++ [32])).toArray⟩ : ByteArray).data.toList = 32 :: (wd ++ [32]) from rfl, hw.has], rfl⟩
set_option maxRecDepth 100000 in
set_option maxHeartbeats 2000000 in
theorem token_word (wd : Bytes) (hw : SqlWord wd) (w : World) (he : Env w) : Calls Tryz.prog 97 #[.string ⟨wd.toArray⟩] w fun e w' => e = .returned (.tuple #[.agg #[.int .i64 1, .int .i64 0, .string ⟨wd.toArray⟩, .int .i64 0], .int .i64 (wd.length : Int), .int .i64 0]) ∧ Below w.heap.size w w' := by
  obtain ⟨c, r, rfl⟩ : ∃ c r, wd = c :: r := by
    cases wd with
    | nil => exact absurd rfl hw.ne
    | cons c r => exact ⟨c, r, rfl⟩
  have hlow : lowB c = true := hw.low c (by simp)
  have C1 := Lib.hid (fun w he => isLower_any c (hw.asc c (by simp)) w he)
  rw [hlow] at C1
  have C2 := Lib.hid (fun w he => prefix_any (c :: r) (by have := hw.len; omega) hw.asc 155 accP (enters_of Tryz.func155 (by kernel_rfl) rfl) (fun c w hc he => isPart_any c hc w he) w he)
  have htw : (c :: r).takeWhile accP = c :: r := takeWhile_self (fun d hd => by unfold accP; rw [hw.low d hd]; rfl)
  rw [htw] at C2
  have C3 := Lib.hid (fun w he => contains_word (c :: r) hw w he)
  have hc128 : c.toNat < 128 := hw.asc c (by simp)
  have HE := Lib.hid he
  have hlen : (c :: r).length ≤ 20 := hw.len
  have S0 : Hid (St w w []) := St.start w
  have q0 : 0 < (⟨(c :: r).toArray⟩ : ByteArray).size := by show 0 < (c :: r).toArray.size; simp
  have q1 : (⟨(c :: r).toArray⟩ : ByteArray)[0]'q0 = c := rfl
  have e1 := cat_eq [32] (c :: r)
  have e2 := cat_eq (32 :: c :: r) [32]
  simp only [List.cons_append, List.nil_append] at e1 e2 C3
  clear he hlow htw hw
  go_enter Tryz.func97, Tryz.ntmps97
  go_wp2_with fail
  refine Calls.mono (C1.out _ (HE.out.kept ((Below.refl _ _).alloc (Nat.le_refl _) _))) ?_
  rintro e w1 ⟨rfl, rfl⟩
  go_wp2_with fail
  refine Calls.mono (C2.out _ (HE.out.kept ((Below.refl _ _).alloc (Nat.le_refl _) _))) ?_
  rintro e w2 ⟨rfl, hb2⟩
  refine St.call (St.alloc (S0.out)) hb2 ?_
  intro S2
  clear hb2
  try (simp only [List.set_cons_zero, List.set_cons_succ, List.setIfInBounds_toArray, World.size_alloc] at S2)
  have F2 := S2.out.facts
  simp only [St.Facts, cellFacts, apartFacts, and_true] at F2
  have hcl : 1 + (c :: r).length ≤ 21 := by omega
  have hcl2 : r.length + 1 ≤ 20 := by simpa using hlen
  go_wp2_with fail
  refine Calls.mono (C3.out _ (HE.out.kept S2.out.below)) ?_
  rintro e w3 ⟨rfl, rfl⟩
  go_wp2_with fail
  have S4 := St.set 0 (o := 3) (v := .int .i64 0) (St.set 0 (o := 2) (v := .string ⟨(c :: r).toArray⟩) (St.set 0 (o := 1) (v := .int .i64 0) (St.set 0 (o := 0) (v := .int .i64 1) S2.out rfl) rfl) rfl) rfl
  refine bodyPost_ret (v := .tuple #[.agg #[.int .i64 1, .int .i64 0, .string ⟨(c :: r).toArray⟩, .int .i64 0], .int .i64 ((r.length : Int) + 1), .int .i64 0]) (by simp [results, Tryz.results97, go_sem, F2]) rfl ⟨by simp, S4.below⟩
def tokCells (wd : Bytes) : List Value := [.int .i64 1, .int .i64 0, .string ⟨wd.toArray⟩, .int .i64 0]
theorem info177 : (Tryz.prog.info? 177).map (fun i => (i.zero, i.size, i.bytes)) = some (some (.agg #[.int .i64 0, .int .i64 0, .string ⟨#[]⟩, .int .i64 0]), 4, 40) := by kernel_rfl
/-- A slice with the one token of a word. -/
def TokAt (wd : Bytes) (w : World) (v : Value) : Prop := SlAt w v 1 (tokCells wd)
set_option maxRecDepth 100000 in
set_option maxHeartbeats 2000000 in
theorem tokens_word (wd : Bytes) (hw : SqlWord wd) (w : World) (he : Env w) : Calls Tryz.prog 74 #[.string ⟨wd.toArray⟩] w fun e w' => ∃ v, e = .returned (.tuple #[v, .agg #[.int .i64 0, .int .i64 0]]) ∧ TokAt wd w' v ∧ Below w.heap.size w w' := by
  have C1 := Lib.hid (fun w he => prefix_any wd (by have := hw.len; omega) hw.asc 96 accS (enters_of Tryz.func96 (by kernel_rfl) rfl) (fun c w _ _ => isSpace_any c w) w he)
  have h0 : wd.takeWhile accS = [] := by
    cases wd with
    | nil => rfl
    | cons c r =>
      refine List.takeWhile_cons_of_neg ?_
      have := hw.low c (by simp)
      simp [lowB] at this
      simp only [accS, Bool.or_eq_true, beq_iff_eq, not_or]
      refine ⟨⟨?_, ?_⟩, ?_⟩ <;> (rintro rfl; simp at this)
  rw [h0] at C1
  have C2 := Lib.hid (fun w he => prefix_any [] (by simp) (by simp) 96 accS (enters_of Tryz.func96 (by kernel_rfl) rfl) (fun c w _ _ => isSpace_any c w) w he)
  simp only [List.takeWhile_nil] at C2
  have C3 := Lib.hid (fun w he => token_word wd hw w he)
  have HE := Lib.hid he
  have hlen := hw.len
  have hpos : 0 < wd.length := List.length_pos_iff.2 hw.ne
  have S0 : Hid (St w w []) := St.start w
  have hsz : (⟨wd.toArray⟩ : ByteArray).size = wd.length := by show wd.toArray.size = _; simp
  have x0 : (⟨wd.toArray⟩ : ByteArray).extract 0 wd.length = ⟨wd.toArray⟩ := by rw [extract_list]; simp
  have x1 : (⟨wd.toArray⟩ : ByteArray).extract wd.length wd.length = ⟨#[]⟩ := by rw [extract_list]; simp
  clear he hw h0
  go_enter Tryz.func74, Tryz.ntmps74
  go_wp2_with fail
  refine wp_loop_rounds 2 ?_
  rw [rounds_succ]
  go_wp2_with fail
  refine Calls.mono (C1.out _ (HE.out.kept ((Below.refl _ _).alloc (Nat.le_refl _) _))) ?_
  rintro e w1 ⟨rfl, hb1⟩
  refine St.call (St.alloc (S0.out)) hb1 ?_
  intro S1
  clear hb1
  try (simp only [List.set_cons_zero, List.set_cons_succ, List.setIfInBounds_toArray, World.size_alloc] at S1)
  have t1 : ((0 : Int) == (wd.length : Int)) = false := by simp; omega
  have t2 : (0 == wd.length) = false := by simp; omega
  go_wp2_with fail
  refine Calls.mono (C3.out _ (HE.out.kept S1.out.below)) ?_
  rintro e w2 ⟨rfl, hb2⟩
  refine St.call (S1.out) hb2 ?_
  intro S2
  clear hb2
  try (simp only [List.set_cons_zero, List.set_cons_succ, List.setIfInBounds_toArray, World.size_alloc] at S2)
  go_wp2_with (at_builtin; go_must (refine wpList_append_newk rfl _ _ 145 rfl 177 (.agg #[.int .i64 0, .int .i64 0, .string ⟨#[]⟩, .int .i64 0]) 4 40 Tryz.underlying145 info177 rfl (by decide) (w2.heap.size + 1) (.slice none 0 0) 0 [] rfl (World.ownsRow_nil _ _ _ _) (tokCells wd).toArray 1 (w2.heap.size + 1) rfl rfl (by simp) (by simp [tokCells, Value.oneCell']) (by decide) (by decide) (by simp) ?_))
  intro v3 w3 hown3 hg3
  have S3 : Hid (St w w3 [(w.heap.size, #[.int .i64 0, .int .i64 0], 31)]) := (St.laid S2.out).turned (Turn.of_grown hg3) (fun i h => by simp [Value.ownBlock] at h) (by simp [Value.ownBlock])
  have HO3 := Lib.hid hown3
  have hw2 : w.heap.size ≤ w2.heap.size := S2.out.below.size
  clear hown3 hg3 S2 t1 t2
  go_wp2_with fail
  rw [rounds_succ]
  go_wp2_with fail
  refine Calls.mono (C2.out _ (HE.out.kept S3.out.below)) ?_
  rintro e w4 ⟨rfl, hb4⟩
  have HO4 := Lib.hid (HO3.out.later hb4)
  refine St.call (S3.out) hb4 ?_
  intro S4
  clear hb4
  try (simp only [List.set_cons_zero, List.set_cons_succ, List.setIfInBounds_toArray, World.size_alloc] at S4)
  have F4 := S4.out.facts
  simp only [St.Facts, cellFacts, apartFacts, and_true] at F4
  go_wp2_with fail
  have S5 := St.set 0 (o := 1) (v := .int .i64 0) (St.set 0 (o := 0) (v := .int .i64 0) S4.out rfl) rfl
  have hown5 := HO4.out.same (w' := (w4.setCell ⟨w.heap.size, 0, none⟩ (.int .i64 0)).setCell ⟨w.heap.size, 1, none⟩ (.int .i64 0)) (fun g hg => by
    have := (World.ownsRow.lt HO4.out g hg).1
    rw [Below.heap_setCell _ _ _ _ (by show g ≠ w.heap.size; omega), Below.heap_setCell _ _ _ _ (by show g ≠ w.heap.size; omega)])
  exact bodyPost_ret (v := .tuple #[v3, .agg #[.int .i64 0, .int .i64 0]]) (by simp [results, Tryz.results74, go_sem, F4]) rfl ⟨v3, rfl, hown5.slAt, S5.below⟩
end Go.Proofs.YtialgdnkkjmpbaaGreatDoor
