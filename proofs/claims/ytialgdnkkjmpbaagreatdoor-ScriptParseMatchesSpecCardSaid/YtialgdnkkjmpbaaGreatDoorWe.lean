/-
  Walks: what the reader of acts calls: the search for a word among the forms, slices.Clip, slices.Repeat. The memory that was there is as it was.
-/
import Derived.Test.YtialgdnkkjmpbaaGreatDoorWd
import Derived.Test.YtialgdnkkjmpbaaGreatDoorKitB
namespace Go.Proofs.YtialgdnkkjmpbaaGreatDoor
open Go.RowKit Go.Sort

theorem acts1_any (f : Bytes × Nat) (pb b o n cap : Nat) (p : Bytes) (w : World) (h1 : w.cell? ⟨pb, 0, none⟩ = some (.slice (some ⟨b, o, none⟩) n cap)) (h2 : w.cell? ⟨b, o, none⟩ = some (.string ⟨p.toArray⟩)) (hn : 0 < n) :
    Calls Tryz.prog 141 #[.agg #[.string ⟨f.1.toArray⟩, .int .i64 (f.2 : Int)], .pointer (some ⟨pb, 0, none⟩)] w fun e w' => e = .returned (.bool (decide (f.1 = p ∧ f.1 ≠ []))) ∧ Below w.heap.size w w' := by
  have hb1 := block_lt_of_cell h1
  have hb2 := block_lt_of_cell h2
  have q1 : ∀ (d : Nat) (os : Array Obj), (grow (redrawn (w.alloc (.cells #[.string ⟨f.1.toArray⟩, .int .i64 (f.2 : Int)] 79)) d) os).cell? ⟨pb, 0, none⟩ = some (.slice (some ⟨b, o, none⟩) n cap) := fun d os => (below_regrown _ d os).cell_kept (((Below.refl w.heap.size w).alloc (Nat.le_refl _) _).cell_kept h1)
  have q2 : ∀ (d : Nat) (os : Array Obj), (grow (redrawn (w.alloc (.cells #[.string ⟨f.1.toArray⟩, .int .i64 (f.2 : Int)] 79)) d) os).cell? ⟨b, o, none⟩ = some (.string ⟨p.toArray⟩) := fun d os => (below_regrown _ d os).cell_kept (((Below.refl w.heap.size w).alloc (Nat.le_refl _) _).cell_kept h2)
  have q3 : ∀ (d : Nat) (os : Array Obj), (grow (redrawn (w.alloc (.cells #[.string ⟨f.1.toArray⟩, .int .i64 (f.2 : Int)] 79)) d) os).cell? ⟨w.heap.size, 0, none⟩ = some (.string ⟨f.1.toArray⟩) := fun d os => (below_regrown _ d os).cell_kept (by rw [World.cell?_alloc_at _ _ _ _ rfl]; rfl)
  obtain ⟨e1, he1⟩ : ∃ c, decide (f.1 = p) = c := ⟨_, rfl⟩
  have s1 : ((⟨f.1.toArray⟩ : ByteArray).toList == (⟨p.toArray⟩ : ByteArray).toList) = e1 := by rw [beq_str]; exact he1
  have s2 : (f.1 == (⟨p.toArray⟩ : ByteArray).toList) = e1 := by rw [beq_str']; exact he1
  have s3 : (f.1 == p) = e1 := by rw [← he1, Bool.eq_iff_iff]; simp
  obtain ⟨e2, he2⟩ : ∃ c, decide (f.1 = []) = c := ⟨_, rfl⟩
  obtain ⟨u1, u2, u3, u4⟩ := str_lit f.1 [] e2 he2
  have u5 : f.1.isEmpty = e2 := by rw [← he2, Bool.eq_iff_iff]; simp
  have u6 : (⟨f.1.toArray⟩ : ByteArray).toList.isEmpty = e2 := by rw [ByteArray.toList_eq]; exact u5
  have HD : Hid (decide (f.1 = p ∧ f.1 ≠ []) = (e1 && !e2)) := by show _ = _; rw [← he1, ← he2]; simp
  clear he1 he2 h1 h2
  cases e1
  all_goals cases e2
  all_goals
    go_enter Tryz.func141, Tryz.ntmps141
    go_wp2_with fail
    refine wp_region_mixed 12 [(0, false), (1, false), (2, false), (3, false), (4, false), (5, false), (6, false), (7, false), (8, false), (9, false), (10, false), (11, false)] (by kernel_rfl) (by kernel_rfl) ?_
    repeat (refine wpM_mild rfl (fun K hK => ?_); go_simp; first | (refine hK _ ?_; clear hK K) | (apply Exists.intro; refine ⟨fun _ => ?_, hK _ ?_⟩; (fail); clear hK K))
    refine wpM_end ?_
    intro w2 _ hb
    have HB := Lib.hid hb
    clear hb q1 q2 q3
    go_wp2_with fail
    go_returns
    exact ⟨ret_bool HD.out.symm, ((Below.refl w.heap.size w).alloc (Nat.le_refl _) _).step HB.out⟩
def kindInt (p : Bytes) : Int := match kindOf p with | some k => (k : Int) | none => -1
set_option maxRecDepth 100000 in
theorem form_cells {w : World} (h : Env w) (k : Nat) (f : Bytes × Nat) (hf : forms[k]? = some f) : w.cell? ⟨0, k * 2, none⟩ = some (.string ⟨f.1.toArray⟩) ∧ w.cell? ⟨0, k * 2 + 1, none⟩ = some (.int .i64 (f.2 : Int)) := by
  have hlt := (List.getElem?_eq_some_iff.1 hf).1
  have key : ∀ (L : List (Bytes × Nat)) (k : Nat) (f : Bytes × Nat), L[k]? = some f → (L.flatMap fun f => [Value.string ⟨f.1.toArray⟩, .int .i64 (f.2 : Int)])[k * 2]? = some (.string ⟨f.1.toArray⟩) ∧ (L.flatMap fun f => [Value.string ⟨f.1.toArray⟩, .int .i64 (f.2 : Int)])[k * 2 + 1]? = some (.int .i64 (f.2 : Int)) := by
    intro L
    induction L with
    | nil => intro k f h; cases h
    | cons g L ih =>
      intro k f h
      cases k with
      | zero => simp only [List.getElem?_cons_zero, Option.some.injEq] at h; subst h; simp
      | succ k =>
        simp only [List.getElem?_cons_succ] at h
        have := ih k f h
        simp only [List.flatMap_cons, show (k + 1) * 2 = k * 2 + 2 by omega]
        simpa using this
  have := key forms k f hf
  have h1 := h.forms (k * 2) _ this.1
  have h2 := h.forms (k * 2 + 1) _ this.2
  rw [Nat.zero_add] at h1 h2
  exact ⟨h1, h2⟩
set_option maxRecDepth 100000 in
set_option maxHeartbeats 1000000 in
theorem findForm_any (pb b o n cap : Nat) (p : Bytes) (w : World) (he : Env w) (h1 : w.cell? ⟨pb, 0, none⟩ = some (.slice (some ⟨b, o, none⟩) n cap)) (h2 : w.cell? ⟨b, o, none⟩ = some (.string ⟨p.toArray⟩)) (hn : 0 < n) :
    Calls Tryz.prog 140 #[.slice (some ⟨0, 0, none⟩) 13 13, .func (.func 141) #[] #[.pointer (some ⟨pb, 0, none⟩)]] w fun e w' => e = .returned (.int .i64 (kindInt p)) ∧ Below w.heap.size w w' := by
  have HE := Lib.hid he
  have H1 := Lib.hid h1
  have H2 := Lib.hid h2
  clear he h1 h2
  go_enter Tryz.func140, Tryz.ntmps140
  go_wp2_with fail
  go_loopw [5, 8] (fun _ i wr => ∃ k : Nat, k ≤ 13 ∧ i = .int .i64 k ∧ Hid (kindOf p = kindFrom p k (forms.drop k)) ∧ Hid (Below w.heap.size w wr)) (fun _ i _ => 13 - (intOf i).toNat)
  case atStart => exact ⟨0, by omega, rfl, rfl, Below.refl _ _⟩
  case round =>
    obtain ⟨k, hk, rfl, HK, HB⟩ := hrel
    by_cases hlt : k < 13
    · obtain ⟨f, hf⟩ : ∃ f, forms[k]? = some f := ⟨_, List.getElem?_eq_getElem (by simpa [forms] using hlt)⟩
      obtain ⟨x1, x2⟩ := form_cells (HE.out.kept HB.out) k f hf
      have C := Lib.hid (acts1_any f pb b o n cap p wr (HB.out.cell_kept H1.out) (HB.out.cell_kept H2.out) hn)
      have hst := kindFrom_step p k f hf
      by_cases hm : f.1 = p ∧ f.1 ≠ []
      · rw [decide_eq_true hm] at C
        have HR : Hid (kindOf p = some k) := by show _ = _; rw [HK.out, hst, if_pos hm]
        clear hst hm HK hf
        go_wp2_with fail
        refine Calls.mono C.out ?_
        rintro e w1 ⟨rfl, hb1⟩
        have HB1 := Lib.hid (HB.out.step hb1)
        clear hb1
        go_wp2_with fail
        go_returns
        exact ⟨by unfold kindInt; rw [HR.out]; rfl, HB1.out⟩
      · rw [decide_eq_false hm] at C
        have HR : Hid (kindOf p = kindFrom p (k + 1) (forms.drop (k + 1))) := by show _ = _; rw [HK.out, hst, if_neg hm]
        clear hst hm HK hf
        go_wp2_with fail
        refine Calls.mono C.out ?_
        rintro e w1 ⟨rfl, hb1⟩
        have HB1 := Lib.hid (HB.out.step hb1)
        clear hb1
        go_wp2_with fail
        go_roundw
        case rel => exact ⟨k + 1, by omega, by go_num, HR.out, HB1.out⟩
        case measure => simp [intOf]; omega
    · obtain rfl : k = 13 := by omega
      have HR : Hid (kindOf p = none) := by show _ = _; rw [HK.out]; rfl
      clear HK
      go_wp2_with fail
      go_returns
      exact ⟨by unfold kindInt; rw [HR.out]; rfl, HB.out⟩
theorem clip_any (a : Option Addr) (n cap : Nat) (_hc : n ≤ cap) (w : World) : Calls Tryz.prog 142 #[.slice a n cap] w fun e w' => e = .returned (.slice a n n) ∧ w = w' := by
  cases a
  all_goals
    go_enter Tryz.func142, Tryz.ntmps142
    go_wp2_with fail
    go_returns
    exact ⟨rfl, rfl⟩
end Go.Proofs.YtialgdnkkjmpbaaGreatDoor
