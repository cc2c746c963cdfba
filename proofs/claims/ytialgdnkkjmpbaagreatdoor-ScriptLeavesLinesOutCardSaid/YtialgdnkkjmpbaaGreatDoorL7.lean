/-
  The walk of the law ScriptLeavesLinesOut. Conditions: the variables of the program's text are there, the script and the bytes that are read. The memory that was there is as it was.
-/
import Derived.Test.YtialgdnkkjmpbaaGreatDoorL5
import Derived.Test.YtialgdnkkjmpbaaGreatDoorOpen
namespace Go.Proofs.YtialgdnkkjmpbaaGreatDoor
open Go.RowKit Go.Sort

def putAt (put : List UInt8) (n : Nat) : Nat := (put.getD (n % put.length) 0).toNat
def outAt (put : List UInt8) (tx : Bytes) (k : Nat) : Bytes := btw (putAt put 0) ++ weave (fun n => btw (putAt put n)) 0 (tx.take k)
theorem bvals_at {w : World} {b o : Nat} {put : List UInt8} (h : CellsAt w b o (bvals put)) {k : Nat} {c : UInt8} (hk : put[k]? = some c) : w.cell? ⟨b, o + k, none⟩ = some (.int .u8 (c.toNat : Int)) := h k _ (by simp [bvals, hk])
theorem outAt_plain {put : List UInt8} {tx : Bytes} {k : Nat} {c : UInt8} (hk : tx[k]? = some c) (hc : c ≠ 10) : outAt put tx (k + 1) = outAt put tx k ++ [c] := by
  unfold outAt
  rw [List.take_add_one, hk, Option.toList_some, weave_snoc, if_neg hc, List.append_assoc]
theorem outAt_line {put : List UInt8} {tx : Bytes} {k : Nat} (hk : tx[k]? = some 10) : outAt put tx (k + 1) = (outAt put tx k ++ [10]) ++ btw (putAt put ((tx.take k).count 10 + 1)) := by
  unfold outAt
  rw [List.take_add_one, hk, Option.toList_some, weave_snoc, if_pos rfl, Nat.zero_add]
  simp
theorem outAt_len (put : List UInt8) (tx : Bytes) (k : Nat) (h : tx.length ≤ 6000) : (outAt put tx k).length ≤ 100000 := by
  unfold outAt
  rw [List.length_append]
  have h1 := (btw_facts (putAt put 0)).2.2
  have h2 := weave_len (fun n => btw (putAt put n)) 10 (fun n => (btw_facts (putAt put n)).2.2) (tx.take k) 0
  have h3 : (tx.take k).length ≤ tx.length := by simp; omega
  have : 11 * (tx.take k).length ≤ 11 * 6000 := Nat.mul_le_mul_left _ (by omega)
  omega
theorem parse_out (x : Sc) (h : x.formed = true) (put : List UInt8) (hl : (text x).length ≤ 6000) : parse (outAt put (text x) (text x).length) = (x, 0, 0) := by
  unfold outAt
  rw [List.take_of_length_le (Nat.le_refl _)]
  exact parse_woven x h (putAt put) hl
theorem between_at {w : World} {q : Nat} (h : w.heap[q]? = some (.cells #[.string { data := #[] }, .string { data := #[10] }, .string { data := #[35, 10] }, .string { data := #[35, 32, 115, 116, 101, 112, 32, 48, 10, 10] }, .string { data := #[35, 124, 32, 120, 10] }] 9 (0, 0))) (p : Nat) :
    w.cell? ⟨q, p % 5, none⟩ = some (.string ⟨(btw p).toArray⟩) := by
  simp only [World.cell?, h]
  unfold btw
  have hp : p % 5 = 0 ∨ p % 5 = 1 ∨ p % 5 = 2 ∨ p % 5 = 3 ∨ p % 5 = 4 := by omega
  rcases hp with hp | hp | hp | hp | hp <;> rw [hp] <;> rfl
theorem str_app (a b : Bytes) : (⟨a.toArray⟩ ++ ⟨b.toArray⟩ : ByteArray) = ⟨(a ++ b).toArray⟩ := by
  apply ByteArray.ext
  simp
theorem extract_one (S : ByteArray) (k : Nat) (h : k < S.size) (Z : Bytes) : (⟨Z.toArray⟩ ++ S.extract k (k + 1) : ByteArray) = ⟨(Z ++ [S[k]]).toArray⟩ := by
  rw [extract_list, take_snocB S k h, show k + 1 - k = 1 by omega]
  apply ByteArray.ext
  simp
set_option maxRecDepth 100000 in
set_option maxHeartbeats 8000000 in
theorem law7 (x : Sc) (cv av pv : Value) (put : List UInt8) (w : World) (he : Env w) (h : ScAt w cv av x) (hp : SlAt w pv put.length (bvals put)) : Calls Tryz.prog 7 #[scVal x cv av, pv] w fun e w' => e = .returned (.bool true) ∧ Below w.heap.size w w' := by
  have HE := Lib.hid he
  have C0 := Lib.hid (fun w he => sanity_any w he)
  have CF := Lib.hid (fun w h => few_any x cv av w h)
  have HS := Lib.hid h
  have S0 : Hid (St w w []) := St.start w
  obtain ⟨hav, _, _, hcv, _⟩ := h
  obtain ⟨aa, ac, rfl, _, _⟩ := hav
  obtain ⟨ca, cc, rfl, _, _⟩ := hcv
  obtain ⟨pa, pc, rfl, hpc, hpcells⟩ := hp
  have HP := Lib.hid hpcells
  clear he hpcells
  cases hfew : few x with
  | false =>
    rw [hfew] at CF
    clear hfew
    unfold scVal at *
    obtain ⟨xl, xm, xr, xd, xb, cls, acts⟩ := x
    simp only at *
    have SB : Hid (St w (w.alloc (.cells #[.int .i64 xl, .int .i64 xm, .int .i64 xr, .int .i64 xd, .int .i64 xb, .slice ca cls.length cc, .slice aa acts.length ac] 28)) [(w.heap.size, #[.int .i64 xl, .int .i64 xm, .int .i64 xr, .int .i64 xd, .int .i64 xb, .slice ca cls.length cc, .slice aa acts.length ac], 28)]) := St.alloc S0.out
    go_enter Tryz.func7, Tryz.ntmps7
    go_wp2_with fail
    refine Calls.mono (C0.out _ (HE.out.kept SB.out.below)) ?_
    rintro e w1 ⟨rfl, hb1⟩
    refine St.call (SB.out) hb1 ?_
    intro S1
    clear hb1
    try (simp only [List.set_cons_zero, List.set_cons_succ, List.setIfInBounds_toArray, World.size_alloc] at S1)
    have F1 := S1.out.facts
    simp only [St.Facts, cellFacts, apartFacts, and_true] at F1
    go_wp2_with fail
    refine Calls.mono (CF.out _ (HS.out.kept S1.out.below)) ?_
    rintro e w2 ⟨rfl, hb2⟩
    refine St.call (S1.out) hb2 ?_
    intro S2
    clear hb2
    try (simp only [List.set_cons_zero, List.set_cons_succ, List.setIfInBounds_toArray, World.size_alloc] at S2)
    clear F1
    go_wp2_with fail
    go_returns
    exact ⟨rfl, S2.out.below⟩
  | true =>
    rw [hfew] at CF
    by_cases hp0 : put.length = 0
    · obtain rfl : put = [] := List.eq_nil_of_length_eq_zero hp0
      clear hfew hp0 HP
      simp only [List.length_nil] at *
      unfold scVal at *
      obtain ⟨xl, xm, xr, xd, xb, cls, acts⟩ := x
      simp only at *
      have SB : Hid (St w (w.alloc (.cells #[.int .i64 xl, .int .i64 xm, .int .i64 xr, .int .i64 xd, .int .i64 xb, .slice ca cls.length cc, .slice aa acts.length ac] 28)) [(w.heap.size, #[.int .i64 xl, .int .i64 xm, .int .i64 xr, .int .i64 xd, .int .i64 xb, .slice ca cls.length cc, .slice aa acts.length ac], 28)]) := St.alloc S0.out
      go_enter Tryz.func7, Tryz.ntmps7
      go_wp2_with fail
      refine Calls.mono (C0.out _ (HE.out.kept SB.out.below)) ?_
      rintro e w1 ⟨rfl, hb1⟩
      refine St.call (SB.out) hb1 ?_
      intro S1
      clear hb1
      try (simp only [List.set_cons_zero, List.set_cons_succ, List.setIfInBounds_toArray, World.size_alloc] at S1)
      have F1 := S1.out.facts
      simp only [St.Facts, cellFacts, apartFacts, and_true] at F1
      go_wp2_with fail
      refine Calls.mono (CF.out _ (HS.out.kept S1.out.below)) ?_
      rintro e w2 ⟨rfl, hb2⟩
      refine St.call (S1.out) hb2 ?_
      intro S2
      clear hb2
      try (simp only [List.set_cons_zero, List.set_cons_succ, List.setIfInBounds_toArray, World.size_alloc] at S2)
      clear F1
      go_wp2_with fail
      go_returns
      exact ⟨rfl, S2.out.below⟩
    · have hm := (few_modest hfew).1
      have CP := Lib.hid (fun w he h => print_any x (.slice ca x.clients.length cc) (.slice aa x.acts.length ac) w he h hm (fun hf => by have := (few_printed hfew hf).2; omega))
      have hpl : ((put.length : Int) == 0) = false := by simpa using hp0
      have hpl' : (put.length == 0) = false := by simpa using hp0
      have hpp : 0 < put.length := by omega
      clear hp0
      cases hf : x.formed with
      | false =>
        rw [bad_printed hf] at CP
        unfold PrintRes at CP
        clear hfew hf hm
        unfold scVal at *
        simp only [eForm] at CP
        obtain ⟨xl, xm, xr, xd, xb, cls, acts⟩ := x
        simp only at *
        have SB : Hid (St w (w.alloc (.cells #[.int .i64 xl, .int .i64 xm, .int .i64 xr, .int .i64 xd, .int .i64 xb, .slice ca cls.length cc, .slice aa acts.length ac] 28)) [(w.heap.size, #[.int .i64 xl, .int .i64 xm, .int .i64 xr, .int .i64 xd, .int .i64 xb, .slice ca cls.length cc, .slice aa acts.length ac], 28)]) := St.alloc S0.out
        go_enter Tryz.func7, Tryz.ntmps7
        go_wp2_with fail
        refine Calls.mono (C0.out _ (HE.out.kept SB.out.below)) ?_
        rintro e w1 ⟨rfl, hb1⟩
        refine St.call (SB.out) hb1 ?_
        intro S1
        clear hb1
        try (simp only [List.set_cons_zero, List.set_cons_succ, List.setIfInBounds_toArray, World.size_alloc] at S1)
        have F1 := S1.out.facts
        simp only [St.Facts, cellFacts, apartFacts, and_true] at F1
        go_wp2_with fail
        refine Calls.mono (CF.out _ (HS.out.kept S1.out.below)) ?_
        rintro e w2 ⟨rfl, hb2⟩
        refine St.call (S1.out) hb2 ?_
        intro S2
        clear hb2
        try (simp only [List.set_cons_zero, List.set_cons_succ, List.setIfInBounds_toArray, World.size_alloc] at S2)
        clear F1
        have F2 := S2.out.facts
        simp only [St.Facts, cellFacts, apartFacts, and_true] at F2
        go_wp2_with fail
        refine Calls.mono (CP.out _ (HE.out.kept S2.out.below) (HS.out.kept S2.out.below)) ?_
        rintro e w3 ⟨rfl, hb3⟩
        refine St.call (S2.out) hb3 ?_
        intro S3
        clear hb3
        try (simp only [List.set_cons_zero, List.set_cons_succ, List.setIfInBounds_toArray, World.size_alloc] at S3)
        clear F2
        go_wp2_with fail
        go_returns
        exact ⟨rfl, S3.out.below⟩
      | true =>
        rw [(few_printed hfew hf).1] at CP
        unfold PrintRes at CP
        by_cases h6 : 6000 < (text x).length
        · clear hfew hf hm
          unfold scVal at *
          obtain ⟨xl, xm, xr, xd, xb, cls, acts⟩ := x
          simp only at *
          generalize text ⟨xl, xm, xr, xd, xb, cls, acts⟩ = tx at *
          have h6' : (6000 : Int) < (tx.length : Int) := by omega
          have SB : Hid (St w (w.alloc (.cells #[.int .i64 xl, .int .i64 xm, .int .i64 xr, .int .i64 xd, .int .i64 xb, .slice ca cls.length cc, .slice aa acts.length ac] 28)) [(w.heap.size, #[.int .i64 xl, .int .i64 xm, .int .i64 xr, .int .i64 xd, .int .i64 xb, .slice ca cls.length cc, .slice aa acts.length ac], 28)]) := St.alloc S0.out
          go_enter Tryz.func7, Tryz.ntmps7
          go_wp2_with fail
          refine Calls.mono (C0.out _ (HE.out.kept SB.out.below)) ?_
          rintro e w1 ⟨rfl, hb1⟩
          refine St.call (SB.out) hb1 ?_
          intro S1
          clear hb1
          try (simp only [List.set_cons_zero, List.set_cons_succ, List.setIfInBounds_toArray, World.size_alloc] at S1)
          have F1 := S1.out.facts
          simp only [St.Facts, cellFacts, apartFacts, and_true] at F1
          go_wp2_with fail
          refine Calls.mono (CF.out _ (HS.out.kept S1.out.below)) ?_
          rintro e w2 ⟨rfl, hb2⟩
          refine St.call (S1.out) hb2 ?_
          intro S2
          clear hb2
          try (simp only [List.set_cons_zero, List.set_cons_succ, List.setIfInBounds_toArray, World.size_alloc] at S2)
          clear F1
          have F2 := S2.out.facts
          simp only [St.Facts, cellFacts, apartFacts, and_true] at F2
          go_wp2_with fail
          refine Calls.mono (CP.out _ (HE.out.kept S2.out.below) (HS.out.kept S2.out.below)) ?_
          rintro e w3 ⟨rfl, hb3⟩
          refine St.call (S2.out) hb3 ?_
          intro S3
          clear hb3
          try (simp only [List.set_cons_zero, List.set_cons_succ, List.setIfInBounds_toArray, World.size_alloc] at S3)
          clear F2
          go_wp2_with fail
          go_returns
          exact ⟨rfl, S3.out.below⟩
        · have h6' : (text x).length ≤ 6000 := by omega
          have P := Lib.hid (fun w he => parse_at (outAt put (text x) (text x).length) _ (parse_out x hf put h6') w he)
          have CS := Lib.hid (fun cv' av' w h h' => same_same x (.slice ca x.clients.length cc) (.slice aa x.acts.length ac) cv' av' w h h' hm)
          clear hfew hf hm h6
          unfold scVal at *
          obtain ⟨xl, xm, xr, xd, xb, cls, acts⟩ := x
          simp only at *
          generalize text ⟨xl, xm, xr, xd, xb, cls, acts⟩ = tx at *
          obtain ⟨S, rfl⟩ : ∃ S : ByteArray, tx = S.data.toList := ⟨⟨tx.toArray⟩, by simp⟩
          rw [show (⟨S.data.toList.toArray⟩ : ByteArray) = S by cases S; simp] at CP
          have hsl : S.data.toList.length = S.size := by simp
          rw [hsl] at h6' P
          clear hsl
          have h6 : ¬ (6000 : Int) < (S.size : Int) := by omega
          obtain ⟨p0, hp0⟩ : ∃ c, put[0]? = some c := ⟨put[0], by simp [hpp]⟩
          obtain ⟨bp, op, rfl, hpat⟩ := HP.out hpp
          have HPA := Lib.hid hpat
          have HP0 := Lib.hid hp0
          have HPP : Hid (putAt put 0 = p0.toNat) := by show _ = _; unfold putAt; rw [Nat.zero_mod, List.getD_eq_getElem?_getD, hp0]; rfl
          have SB : Hid (St w (w.alloc (.cells #[.int .i64 xl, .int .i64 xm, .int .i64 xr, .int .i64 xd, .int .i64 xb, .slice ca cls.length cc, .slice aa acts.length ac] 28)) [(w.heap.size, #[.int .i64 xl, .int .i64 xm, .int .i64 xr, .int .i64 xd, .int .i64 xb, .slice ca cls.length cc, .slice aa acts.length ac], 28)]) := St.alloc S0.out
          clear hpat hp0 HP
          go_enter Tryz.func7, Tryz.ntmps7
          go_wp2_with fail
          refine Calls.mono (C0.out _ (HE.out.kept SB.out.below)) ?_
          rintro e w1 ⟨rfl, hb1⟩
          refine St.call (SB.out) hb1 ?_
          intro S1
          clear hb1
          try (simp only [List.set_cons_zero, List.set_cons_succ, List.setIfInBounds_toArray, World.size_alloc] at S1)
          have F1 := S1.out.facts
          simp only [St.Facts, cellFacts, apartFacts, and_true] at F1
          go_wp2_with fail
          refine Calls.mono (CF.out _ (HS.out.kept S1.out.below)) ?_
          rintro e w2 ⟨rfl, hb2⟩
          refine St.call (S1.out) hb2 ?_
          intro S2
          clear hb2
          try (simp only [List.set_cons_zero, List.set_cons_succ, List.setIfInBounds_toArray, World.size_alloc] at S2)
          clear F1
          have F2 := S2.out.facts
          simp only [St.Facts, cellFacts, apartFacts, and_true] at F2
          go_wp2_with fail
          refine Calls.mono (CP.out _ (HE.out.kept S2.out.below) (HS.out.kept S2.out.below)) ?_
          rintro e w3 ⟨rfl, hb3⟩
          refine St.call (S2.out) hb3 ?_
          intro S3
          clear hb3
          try (simp only [List.set_cons_zero, List.set_cons_succ, List.setIfInBounds_toArray, World.size_alloc] at S3)
          clear F2
          go_upto_region 8 with (fail)
          refine St.gen (St.alloc (S3.out)) ?_
          intro w4 S4
          try (simp only [List.set_cons_zero, List.set_cons_succ, List.setIfInBounds_toArray, World.size_alloc] at S4)
          clear S3
          generalize w3.heap.size = q at *
          have B4 := S4.out.blk 0 rfl
          have y0 : w4.cell? ⟨bp, op, none⟩ = some (.int .u8 (p0.toNat : Int)) := bvals_at (HPA.out.kept S4.out.below) HP0.out
          have hp5 := p0.toNat_lt
          generalize p0.toNat = pp at *
          have y1 := between_at B4 pp
          clear B4
          go_wp2_with fail
          clear y0 y1
          go_loopw [9, 10, 11] (fun o n i wr => ∃ (k c : Nat) (Z : Bytes), k ≤ S.size ∧ c ≤ k ∧ i = .int .i64 (k : Int) ∧ n = .int .i64 (c : Int) ∧ o = .string ⟨Z.toArray⟩ ∧ Hid (c = (S.data.toList.take k).count 10) ∧ Hid (Z = outAt put S.data.toList k) ∧ Z.length ≤ 100000 ∧ Hid (St w wr [(q, #[.string { data := #[] }, .string { data := #[10] }, .string { data := #[35, 10] }, .string { data := #[35, 32, 115, 116, 101, 112, 32, 48, 10, 10] }, .string { data := #[35, 124, 32, 120, 10] }], 9), (w.heap.size, #[.int .i64 xl, .int .i64 xm, .int .i64 xr, .int .i64 xd, .int .i64 xb, .slice ca cls.length cc, .slice aa acts.length ac], 28)])) (fun _ _ i _ => S.size - (intOf i).toNat)
          case atStart => exact ⟨0, 0, btw pp, by omega, by omega, rfl, rfl, rfl, by show _ = _; simp, by show _ = _; unfold outAt; rw [HPP.out]; simp [weave], by have := (btw_facts pp).2.2; omega, S4.out⟩
          case round =>
            clear S4
            obtain ⟨k, c, Z, hk, hc, rfl, rfl, rfl, HC, HZ, hz, SR⟩ := hrel
            by_cases hlt : k < S.size
            · have hkl : (k : Int) < (S.size : Int) := by omega
              have HK := Lib.hid (at_byte S k hlt)
              have HX := Lib.hid (extract_one S k hlt)
              have hzl : (Z ++ [S[k]]).length ≤ 200000 := by simp; omega
              by_cases h10 : S[k] = 10
              · have t1 : ((S[k].toNat : Int) == 10) = true := by rw [h10]; rfl
                have B := SR.out.blk 0 rfl
                have hm1 : (c + 1) % put.length < put.length := Nat.mod_lt _ hpp
                obtain ⟨p1, hp1⟩ : ∃ d, put[(c + 1) % put.length]? = some d := ⟨put[(c + 1) % put.length], by simp [hm1]⟩
                have y0 : wr.cell? ⟨bp, op + (c + 1) % put.length, none⟩ = some (.int .u8 (p1.toNat : Int)) := bvals_at (HPA.out.kept SR.out.below) hp1
                have HQ : Hid (putAt put (c + 1) = p1.toNat) := by show _ = _; unfold putAt; rw [List.getD_eq_getElem?_getD, hp1]; rfl
                have hp15 := p1.toNat_lt
                clear hp1
                generalize p1.toNat = pp1 at *
                have y1 := between_at B pp1
                have HC2 : Hid (c + 1 = (S.data.toList.take (k + 1)).count 10) := by
                  show _ = _
                  rw [List.take_add_one, HK.out, Option.toList_some, List.count_append, ← HC.out, h10]; rfl
                have HZ2 : Hid ((Z ++ [S[k]]) ++ btw pp1 = outAt put S.data.toList (k + 1)) := by
                  show _ = _
                  have hk10 := HK.out
                  rw [h10] at hk10
                  rw [outAt_line hk10, ← HC.out, HQ.out, ← HZ.out, h10]
                have hz2 : ((Z ++ [S[k]]) ++ btw pp1).length ≤ 100000 := by rw [HZ2.out]; exact outAt_len put _ _ (by simp; omega)
                have HA := Lib.hid (HX.out Z)
                have HA2 := Lib.hid (str_app (Z ++ [S[k]]) (btw pp1))
                have hbl := (btw_facts pp1).2.2
                have hxs : (S.extract k (k + 1)).size ≤ 1 := by simp; omega
                have hq1 : 0 ≤ ((c : Int) + 1) % (put.length : Int) := Int.emod_nonneg _ (by omega)
                have hq2 : ((c : Int) + 1) % (put.length : Int) < (put.length : Int) := Int.emod_lt_of_pos _ (by omega)
                clear B HC HZ hm1 HQ h10
                go_wp2_with fail
                go_roundw
                case rel => exact ⟨k + 1, c + 1, _, by omega, by omega, by go_num, by go_num, congrArg Value.string (by rw [HA.out]; exact HA2.out), HC2.out, HZ2.out, hz2, SR.out⟩
                case measure => simp [intOf]; omega
              · have t1 : ((S[k].toNat : Int) == 10) = false := by
                  have : S[k].toNat ≠ 10 := fun e => h10 (UInt8.toNat_inj.1 (by rw [e]; rfl))
                  simp; omega
                have HC2 : Hid (c = (S.data.toList.take (k + 1)).count 10) := by
                  show _ = _
                  rw [List.take_add_one, HK.out, Option.toList_some, List.count_append, ← HC.out]
                  simp [h10]
                have HZ2 : Hid (Z ++ [S[k]] = outAt put S.data.toList (k + 1)) := by
                  show _ = _
                  rw [outAt_plain HK.out h10, ← HZ.out]
                have hz2 : (Z ++ [S[k]]).length ≤ 100000 := by rw [HZ2.out]; exact outAt_len put _ _ (by simp; omega)
                have HA := Lib.hid (HX.out Z)
                have hxs : (S.extract k (k + 1)).size ≤ 1 := by simp; omega
                clear HC HZ h10
                go_wp2_with fail
                go_roundw
                case rel => exact ⟨k + 1, c, _, by omega, by omega, by go_num, by go_num, congrArg Value.string HA.out, HC2.out, HZ2.out, hz2, SR.out⟩
                case measure => simp [intOf]; omega
            · obtain rfl : k = S.size := by omega
              have PZ : Hid (∀ w, Env w → Calls Tryz.prog 11 #[.string ⟨Z.toArray⟩] w fun e w' => ∃ a1 c1 a2 c2,
                  e = .returned (.tuple #[.agg #[.int .i64 xl, .int .i64 xm, .int .i64 xr, .int .i64 xd, .int .i64 xb, .slice a1 cls.length c1, .slice a2 acts.length c2], .agg #[.int .i64 0, .int .i64 0]]) ∧ ScAt w' (.slice a1 cls.length c1) (.slice a2 acts.length c2) ⟨xl, xm, xr, xd, xb, cls, acts⟩ ∧ Below w.heap.size w w') := by
                show ∀ w, _
                rw [HZ.out]
                exact P.out
              clear HC HZ P
              go_wp2_with fail
              refine Calls.mono (PZ.out _ (HE.out.kept SR.out.below)) ?_
              rintro e w4 ⟨a2, c2, b2, d2, rfl, hsc, hb4⟩
              have T4 := Lib.hid (St.alloc (St.alloc (SR.out.kept hb4) (cs := #[.int .i64 xl, .int .i64 xm, .int .i64 xr, .int .i64 xd, .int .i64 xb, .slice a2 cls.length c2, .slice b2 acts.length d2]) (t := 28)) (cs := #[.int .i64 0, .int .i64 0]) (t := 31))
              simp only [World.size_alloc] at T4
              have hba := ((Below.refl w4.heap.size w4).alloc (Nat.le_refl _) (.cells #[.int .i64 xl, .int .i64 xm, .int .i64 xr, .int .i64 xd, .int .i64 xb, .slice a2 cls.length c2, .slice b2 acts.length d2] 28)).alloc (by simp) (.cells #[.int .i64 0, .int .i64 0] 31)
              have Y4 := Lib.hid (hsc.kept hba)
              have F4 := (SR.out.kept hb4).facts
              simp only [St.Facts, cellFacts, apartFacts, and_true] at F4
              clear hb4 hsc hba SR
              go_wp2_with fail
              refine Calls.mono (CS.out _ _ _ (HS.out.kept T4.out.below) Y4.out) ?_
              rintro e w6 ⟨rfl, hb6⟩
              have S6 := Lib.hid (T4.out.kept hb6)
              clear hb6 F4
              go_wp2_with fail
              go_returns
              exact ⟨rfl, S6.out.below⟩
end Go.Proofs.YtialgdnkkjmpbaaGreatDoor
