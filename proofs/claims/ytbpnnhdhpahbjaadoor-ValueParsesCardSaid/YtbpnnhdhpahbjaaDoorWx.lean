/-
  Walks: Parse of the package value, at every string of at most a million bytes. Conditions: the package's two errors and the table of powers of ten are there. The memory that was there is as it was.
-/
import Derived.Test.YtbpnnhdhpahbjaaDoorWw
namespace Go.Proofs.YtbpnnhdhpahbjaaDoor
open Go.RowKit Go.Sort

def bNull : List UInt8 := [110, 117, 108, 108]
def bTrue : List UInt8 := [116, 114, 117, 101]
def bFalse : List UInt8 := [102, 97, 108, 115, 101]
def ifRight (v : V) : Option V := if v.right then some v else none
/-- What the package value's Parse finds. -/
def parseP (L : List UInt8) : Option V :=
  if L = bNull then some V.null else if L = bTrue then some (V.bool true) else if L = bFalse then some (V.bool false)
  else match quo L with
    | some t => ifRight ⟨2, 0, ⟨t.toArray⟩⟩
    | none => match Lib.atoiAll L with
      | .ok n => if Lib.itoa n = L then ifRight (V.num n) else none
      | _ => none
def parseRes : Option V → Value
  | some v => .tuple #[v.val, .bool true]
  | none => .tuple #[V.null.val, .bool false]
theorem eq_list (s : ByteArray) (l : List UInt8) : (s.toList == l) = decide (s.data.toList = l) := by
  rw [ByteArray.toList_eq, Bool.eq_iff_iff]; simp

theorem atoi_bad (s : ByteArray) (hs : s.size ≤ 1000000) (h : ∀ v, Lib.atoiAll s.data.toList ≠ .ok v) (w : World) (he : Errs w) :
    Calls Tryd.prog 65 #[.string s] w fun e w' => ∃ x N, e = .returned (.tuple #[.int .i64 x, .iface 101 (.pointer (some ⟨N, 0, none⟩))]) ∧ Below w.heap.size w w' := by
  obtain ⟨t1, p1, t2, p2, h1, h2⟩ := he
  cases hc : Lib.atoiAll s.data.toList
  case ok v => exact absurd hc (h v)
  case range => exact (Any.strconv_Atoi_range Tryd.laysC172 s (by omega) hc _ w h2 (Or.inr ⟨t2, p2, rfl⟩)).mono (by rintro e w' ⟨N, rfl, _, _, hb⟩; exact ⟨_, N, rfl, hb⟩)
  all_goals exact (Any.strconv_Atoi_syntax Tryd.laysC172 s (by omega) hc _ w h1 (Or.inr ⟨t1, p1, rfl⟩)).mono (by rintro e w' ⟨N, rfl, _, _, hb⟩; exact ⟨_, N, rfl, hb⟩)
theorem atoi_ok (s : ByteArray) (hs : s.size ≤ 1000000) (v : Int) (h : Lib.atoiAll s.data.toList = .ok v) (w : World) :
    Calls Tryd.prog 65 #[.string s] w fun e w' => e = .returned (.tuple #[.int .i64 v, .nilIface]) ∧ Below w.heap.size w w' :=
  (Tryd.strconv_Atoi_ok s (by omega) v h w).mono (by
    rintro e w' ⟨rfl, rfl | ⟨t, rfl⟩⟩
    · exact ⟨rfl, Below.refl _ _⟩
    · exact ⟨rfl, Lib.bytesWorld_below _ _ _⟩)

theorem eq_yes {s : ByteArray} {l : List UInt8} (h : s.data.toList = l) : (s.toList == l) = true := by rw [eq_list, h]; simp
theorem eq_no {s : ByteArray} {l : List UInt8} (h : s.data.toList ≠ l) : (s.toList == l) = false := by rw [eq_list]; simp [h]

set_option maxRecDepth 100000 in
set_option maxHeartbeats 4000000 in
theorem parse_null (s : ByteArray) (w : World) (h : s.data.toList = bNull) : Calls Tryd.prog 40 #[.string s] w fun e w' => e = .returned (parseRes (some V.null)) ∧ Below w.heap.size w w' := by
  have e1 : (s.toList == [110, 117, 108, 108]) = true := eq_yes h
  clear h
  go_enter Tryd.func40, Tryd.ntmps40
  go_wp2_with fail
  refine bodyPost_ret (v := .tuple #[V.null.val, .bool true]) (by simp [results, Tryd.results40, go_sem, V.val, V.null]) rfl ⟨rfl, ?_⟩
  go_grown
set_option maxRecDepth 100000 in
set_option maxHeartbeats 4000000 in
theorem parse_bool (b : Bool) (s : ByteArray) (w : World) (h : s.data.toList = if b then bTrue else bFalse) : Calls Tryd.prog 40 #[.string s] w fun e w' => e = .returned (parseRes (some (V.bool b))) ∧ Below w.heap.size w w' := by
  have e1 : (s.toList == [110, 117, 108, 108]) = false := eq_no (by rw [h]; cases b <;> decide)
  have e2 : (s.toList == [116, 114, 117, 101]) = b := by cases b; exact eq_no (by rw [h]; decide); exact eq_yes h
  have e3 : (s.toList == [102, 97, 108, 115, 101]) = !b := by cases b; exact eq_yes h; exact eq_no (by rw [h]; decide)
  have B : Hid (∀ w, Calls Tryd.prog 46 #[.bool b] w fun e w' => e = .returned (.agg #[.int .i64 3, .int .i64 (b2i b), .string ⟨#[]⟩]) ∧ Below w.heap.size w w') := fun w => truth_any b w
  clear h
  cases b
  all_goals
    go_enter Tryd.func40, Tryd.ntmps40
    go_wp2_with fail
    refine Calls.mono (B.out _) ?_
    rintro e w1 ⟨rfl, hb1⟩
    refine St.call (St.alloc (St.alloc (St.start _))) hb1 ?_
    intro S1
    clear hb1
    try (simp only [World.size_alloc] at S1)
    have F1 := S1.out.facts
    simp only [St.Facts, cellFacts, apartFacts, and_true] at F1
    go_wp2_with fail
  · refine bodyPost_ret (v := .tuple #[.agg #[.int .i64 3, .int .i64 (b2i false), .string ⟨#[]⟩], .bool true]) (by simp [results, Tryd.results40, go_sem, F1]) rfl ⟨rfl, ?_⟩
    exact (St.set 1 (St.set 1 (St.set 1 S1.out rfl) rfl) rfl).below
  · refine bodyPost_ret (v := .tuple #[.agg #[.int .i64 3, .int .i64 (b2i true), .string ⟨#[]⟩], .bool true]) (by simp [results, Tryd.results40, go_sem, F1]) rfl ⟨rfl, ?_⟩
    exact (St.set 1 (St.set 1 (St.set 1 S1.out rfl) rfl) rfl).below

set_option maxRecDepth 100000 in
set_option maxHeartbeats 4000000 in
theorem parse_rest (s : ByteArray) (w : World) (hs : s.size ≤ 1000000) (he : Errs w) (htab : Lib.TabIs Tryd.prog w "internal/strconv.uint64pow10" .u64 Lib.pow10Tab)
    (h1 : s.data.toList ≠ bNull) (h2 : s.data.toList ≠ bTrue) (h3 : s.data.toList ≠ bFalse) : Calls Tryd.prog 40 #[.string s] w fun e w' => e = .returned (parseRes (parseP s.data.toList)) ∧ Below w.heap.size w w' := by
  have e1 : (s.toList == [110, 117, 108, 108]) = false := eq_no h1
  have e2 : (s.toList == [116, 114, 117, 101]) = false := eq_no h2
  have e3 : (s.toList == [102, 97, 108, 115, 101]) = false := eq_no h3
  have Q := Lib.hid (fun w h => quoted_any s w hs h)
  have HE := Lib.hid he
  have HT := Lib.hid (Lib.tabBelow_of_tabIs htab)
  have HP : Hid (parseP s.data.toList = match quo s.data.toList with
    | some t => ifRight ⟨2, 0, ⟨t.toArray⟩⟩
    | none => match Lib.atoiAll s.data.toList with
      | .ok n => if Lib.itoa n = s.data.toList then ifRight (V.num n) else none
      | _ => none) := by show _ = _; unfold parseP; rw [if_neg h1, if_neg h2, if_neg h3]
  clear h1 h2 h3 he htab
  cases hq : quo s.data.toList with
  | some t =>
    rw [hq] at Q HP
    simp only [quoRes] at Q
    have R := Lib.hid (fun w => right_any ⟨2, 0, ⟨t.toArray⟩⟩ ⟨by show (-9223372036854775808 : Int) ≤ 0; decide, by show (0 : Int) ≤ 9223372036854775807; decide⟩ w)
    clear hq
    cases hr : V.right ⟨2, 0, ⟨t.toArray⟩⟩
    all_goals
      rw [hr] at R
      have HR : Hid (parseP s.data.toList = ifRight ⟨2, 0, ⟨t.toArray⟩⟩) := HP.out
      have HRR := Lib.hid hr
      clear HP hr
      go_enter Tryd.func40, Tryd.ntmps40
      go_wp2_with fail
      refine Calls.mono (Q.out _ (HE.out.kept (St.alloc (St.alloc (St.start w))).below)) ?_
      rintro e w1 ⟨rfl, hb1⟩
      refine St.call (St.alloc (St.alloc (St.start _))) hb1 ?_
      intro S1
      clear hb1
      try (simp only [World.size_alloc] at S1)
      have F1 := S1.out.facts
      simp only [St.Facts, cellFacts, apartFacts, and_true] at F1
      go_wp2_with fail
      refine Calls.mono (R.out _) ?_
      rintro e w2 ⟨rfl, hb2⟩
      refine St.call (St.set 0 (St.set 0 (St.set 0 (S1.out) rfl) rfl) rfl) hb2 ?_
      intro S2
      clear hb2
      try (simp only [List.set_cons_zero, List.set_cons_succ, List.setIfInBounds_toArray] at S2)
      clear F1
      have F2 := S2.out.facts
      simp only [St.Facts, cellFacts, apartFacts, and_true] at F2
      go_wp2_with fail
    · refine bodyPost_ret (v := .tuple #[.agg #[.int .i64 0, .int .i64 0, .string ⟨#[]⟩], .bool false]) (by simp [results, Tryd.results40, go_sem, F2]) rfl ⟨by rw [HR.out, ifRight, HRR.out]; rfl, ?_⟩
      exact (St.set 1 (St.set 1 (St.set 1 S2.out rfl) rfl) rfl).below
    · refine bodyPost_ret (v := .tuple #[.agg #[.int .i64 2, .int .i64 0, .string ⟨t.toArray⟩], .bool true]) (by simp [results, Tryd.results40, go_sem, F2]) rfl ⟨by rw [HR.out, ifRight, HRR.out]; rfl, ?_⟩
      exact (St.set 1 (St.set 1 (St.set 1 S2.out rfl) rfl) rfl).below
  | none =>
    rw [hq] at Q HP
    simp only [quoRes] at Q
    clear hq
    by_cases hok : ∃ n, Lib.atoiAll s.data.toList = .ok n
    · obtain ⟨n, hn⟩ := hok
      have hb := Lib.atoiAll_bounds hn
      have A := Lib.hid (fun w => atoi_ok s hs n hn w)
      have HP2 : Hid (parseP s.data.toList = if Lib.itoa n = s.data.toList then ifRight (V.num n) else none) := by show _ = _; rw [HP.out, hn]
      have I : Hid (∀ w', Below w.heap.size w w' → Calls Tryd.prog 53 #[.int .i64 n] w' fun e w'' => e = .returned (.string ⟨(Lib.itoa n).toArray⟩) ∧ Below w'.heap.size w' w'') := fun w' h =>
        (Tryd.strconv_Itoa n hb.1 hb.2 w' (HT.out w' h)).mono (by rintro e w'' ⟨rfl, k, os, rfl⟩; exact ⟨rfl, Lib.below_grow _ _ (Nat.le_refl _) _ _⟩)
      have R := Lib.hid (fun w => right_any (V.num n) hb w)
      obtain ⟨X, hX⟩ : ∃ X, X = Lib.itoa n := ⟨_, rfl⟩
      obtain ⟨sb, hsb⟩ : ∃ sb, sb = decide (Lib.itoa n = s.data.toList) := ⟨_, rfl⟩
      have f1 : ((⟨X.toArray⟩ : ByteArray).toList == s.toList) = sb := by rw [ByteArray.toList_eq, ByteArray.toList_eq, hX, hsb, Bool.eq_iff_iff]; simp
      have f2 : (X == s.toList) = sb := by rw [ByteArray.toList_eq, hX, hsb, Bool.eq_iff_iff]; simp
      rw [← hX] at I
      have HSB := Lib.hid hsb
      clear HP hn hb hX hsb
      cases sb
      · have HR : Hid (parseP s.data.toList = none) := by show _ = _; rw [HP2.out, if_neg (by have := HSB.out; simpa using this.symm)]
        go_enter Tryd.func40, Tryd.ntmps40
        go_wp2_with fail
        refine Calls.mono (Q.out _ (HE.out.kept (St.alloc (St.alloc (St.start w))).below)) ?_
        rintro e w1 ⟨rfl, hb1⟩
        refine St.call (St.alloc (St.alloc (St.start _))) hb1 ?_
        intro S1
        clear hb1
        try (simp only [World.size_alloc] at S1)
        have F1 := S1.out.facts
        simp only [St.Facts, cellFacts, apartFacts, and_true] at F1
        go_wp2_with fail
        refine Calls.mono (A.out _) ?_
        rintro e w2 ⟨rfl, hb2⟩
        refine St.call (S1.out) hb2 ?_
        intro S2
        clear hb2
        try (simp only [List.set_cons_zero, List.set_cons_succ, List.setIfInBounds_toArray, World.size_alloc] at S2)
        clear F1
        have F2 := S2.out.facts
        simp only [St.Facts, cellFacts, apartFacts, and_true] at F2
        go_wp2_with fail
        refine Calls.mono (I.out _ S2.out.below) ?_
        rintro e w3 ⟨rfl, hb3⟩
        refine St.call (S2.out) hb3 ?_
        intro S3
        clear hb3
        try (simp only [List.set_cons_zero, List.set_cons_succ, List.setIfInBounds_toArray, World.size_alloc] at S3)
        clear F2
        have F3 := S3.out.facts
        simp only [St.Facts, cellFacts, apartFacts, and_true] at F3
        go_wp2_with fail
        refine bodyPost_ret (v := .tuple #[.agg #[.int .i64 0, .int .i64 0, .string ⟨#[]⟩], .bool false]) (by simp [results, Tryd.results40, go_sem, F3]) rfl ⟨by rw [HR.out]; rfl, ?_⟩
        exact (St.set 1 (St.set 1 (St.set 1 S3.out rfl) rfl) rfl).below
      · have HR : Hid (parseP s.data.toList = ifRight (V.num n)) := by show _ = _; rw [HP2.out, if_pos (by have := HSB.out; simpa using this.symm)]
        cases hr : V.right (V.num n)
        all_goals
          rw [hr] at R
          have HRR := Lib.hid hr
          clear hr
          go_enter Tryd.func40, Tryd.ntmps40
          go_wp2_with fail
          refine Calls.mono (Q.out _ (HE.out.kept (St.alloc (St.alloc (St.start w))).below)) ?_
          rintro e w1 ⟨rfl, hb1⟩
          refine St.call (St.alloc (St.alloc (St.start _))) hb1 ?_
          intro S1
          clear hb1
          try (simp only [World.size_alloc] at S1)
          have F1 := S1.out.facts
          simp only [St.Facts, cellFacts, apartFacts, and_true] at F1
          go_wp2_with fail
          refine Calls.mono (A.out _) ?_
          rintro e w2 ⟨rfl, hb2⟩
          refine St.call (S1.out) hb2 ?_
          intro S2
          clear hb2
          try (simp only [List.set_cons_zero, List.set_cons_succ, List.setIfInBounds_toArray, World.size_alloc] at S2)
          clear F1
          have F2 := S2.out.facts
          simp only [St.Facts, cellFacts, apartFacts, and_true] at F2
          go_wp2_with fail
          refine Calls.mono (I.out _ S2.out.below) ?_
          rintro e w3 ⟨rfl, hb3⟩
          refine St.call (S2.out) hb3 ?_
          intro S3
          clear hb3
          try (simp only [List.set_cons_zero, List.set_cons_succ, List.setIfInBounds_toArray, World.size_alloc] at S3)
          clear F2
          have F3 := S3.out.facts
          simp only [St.Facts, cellFacts, apartFacts, and_true] at F3
          go_wp2_with fail
          refine Calls.mono (R.out _) ?_
          rintro e w4 ⟨rfl, hb4⟩
          refine St.call (St.set 0 (St.set 0 (St.set 0 (S3.out) rfl) rfl) rfl) hb4 ?_
          intro S4
          clear hb4
          try (simp only [List.set_cons_zero, List.set_cons_succ, List.setIfInBounds_toArray] at S4)
          clear F3
          have F4 := S4.out.facts
          simp only [St.Facts, cellFacts, apartFacts, and_true] at F4
          go_wp2_with fail
        · refine bodyPost_ret (v := .tuple #[.agg #[.int .i64 0, .int .i64 0, .string ⟨#[]⟩], .bool false]) (by simp [results, Tryd.results40, go_sem, F4]) rfl ⟨by rw [HR.out, ifRight, HRR.out]; rfl, ?_⟩
          exact (St.set 1 (St.set 1 (St.set 1 S4.out rfl) rfl) rfl).below
        · refine bodyPost_ret (v := .tuple #[.agg #[.int .i64 1, .int .i64 n, .string ⟨#[]⟩], .bool true]) (by simp [results, Tryd.results40, go_sem, F4]) rfl ⟨by rw [HR.out, ifRight, HRR.out]; rfl, ?_⟩
          exact (St.set 1 (St.set 1 (St.set 1 S4.out rfl) rfl) rfl).below
    · have hno : ∀ v, Lib.atoiAll s.data.toList ≠ .ok v := fun v h => hok ⟨v, h⟩
      have A := Lib.hid (fun w h => atoi_bad s hs hno w h)
      have HR : Hid (parseP s.data.toList = none) := by
        show _ = _
        rw [HP.out]
        cases hc : Lib.atoiAll s.data.toList
        case ok n => exact absurd hc (hno n)
        all_goals rfl
      clear HP hok hno
      go_enter Tryd.func40, Tryd.ntmps40
      go_wp2_with fail
      refine Calls.mono (Q.out _ (HE.out.kept (St.alloc (St.alloc (St.start w))).below)) ?_
      rintro e w1 ⟨rfl, hb1⟩
      refine St.call (St.alloc (St.alloc (St.start _))) hb1 ?_
      intro S1
      clear hb1
      try (simp only [World.size_alloc] at S1)
      have F1 := S1.out.facts
      simp only [St.Facts, cellFacts, apartFacts, and_true] at F1
      go_wp2_with fail
      refine Calls.mono (A.out _ (HE.out.kept S1.out.below)) ?_
      rintro e w2 ⟨x, N, rfl, hb2⟩
      refine St.call (S1.out) hb2 ?_
      intro S2
      clear hb2
      try (simp only [List.set_cons_zero, List.set_cons_succ, List.setIfInBounds_toArray, World.size_alloc] at S2)
      clear F1
      have F2 := S2.out.facts
      simp only [St.Facts, cellFacts, apartFacts, and_true] at F2
      go_wp2_with fail
      refine bodyPost_ret (v := .tuple #[.agg #[.int .i64 0, .int .i64 0, .string ⟨#[]⟩], .bool false]) (by simp [results, Tryd.results40, go_sem, F2]) rfl ⟨by rw [HR.out]; rfl, ?_⟩
      exact (St.set 1 (St.set 1 (St.set 1 S2.out rfl) rfl) rfl).below

theorem parse_any (s : ByteArray) (w : World) (hs : s.size ≤ 1000000) (he : Errs w) (htab : Lib.TabIs Tryd.prog w "internal/strconv.uint64pow10" .u64 Lib.pow10Tab) :
    Calls Tryd.prog 40 #[.string s] w fun e w' => e = .returned (parseRes (parseP s.data.toList)) ∧ Below w.heap.size w w' := by
  by_cases h1 : s.data.toList = bNull
  · rw [parseP, if_pos h1]; exact parse_null s w h1
  by_cases h2 : s.data.toList = bTrue
  · rw [parseP, if_neg h1, if_pos h2]; exact parse_bool true s w h2
  by_cases h3 : s.data.toList = bFalse
  · rw [parseP, if_neg h1, if_neg h2, if_pos h3]; exact parse_bool false s w h3
  exact parse_rest s w hs he htab h1 h2 h3
end Go.Proofs.YtbpnnhdhpahbjaaDoor
