/-
  Walks: the sanity example that every law plays first. Conditions: the variables of the program's text are there. The memory that was there is as it was.
-/
import Derived.Test.YtialgdnkkjmpbaaGreatDoorXc
import Derived.Test.YtialgdnkkjmpbaaGreatDoorWo
import Derived.Test.YtialgdnkkjmpbaaGreatDoorWp
namespace Go.Proofs.YtialgdnkkjmpbaaGreatDoor
open Go.RowKit Go.Sort

/-- Parse, its slices as slices. -/
theorem parse_at (t : Bytes) (r : Sc × Int × Int) (hr : parse t = r) (w : World) (he : Env w) : Calls Tryz.prog 11 #[.string ⟨t.toArray⟩] w fun e w' => ∃ a1 c1 a2 c2,
    e = .returned (.tuple #[.agg #[.int .i64 r.1.lines, .int .i64 r.1.most, .int .i64 r.1.room, .int .i64 r.1.delay, .int .i64 r.1.buckets, .slice a1 r.1.clients.length c1, .slice a2 r.1.acts.length c2], .agg #[.int .i64 r.2.1, .int .i64 r.2.2]]) ∧ ScAt w' (.slice a1 r.1.clients.length c1) (.slice a2 r.1.acts.length c2) r.1 ∧ Below w.heap.size w w' := by
  refine (parse_any ⟨t.toArray⟩ w he).mono ?_
  rw [show (⟨t.toArray⟩ : ByteArray).data.toList = t from rfl, hr]
  rintro e w' ⟨cv, av, rfl, hsc, hb⟩
  obtain ⟨h1, lvs, h2, h3, h4⟩ := hsc
  obtain ⟨a2, c2, rfl, h5⟩ := id h1
  obtain ⟨a1, c1, rfl, h6⟩ := id h3
  exact ⟨a1, c1, a2, c2, rfl, ⟨h1, lvs, h2, h3, h4⟩, hb⟩
theorem ex_modest : Modest exSc := ⟨by decide, by decide, by decide⟩
theorem ex_formed : exSc.formed = true := by decide +kernel
theorem ex_len : (text exSc).length ≤ 900000000 := by decide +kernel
def sane1 : Bytes := [108, 105, 110, 101, 115, 32, 54, 52, 48, 10, 115, 101, 116, 32, 52, 32, 54, 52, 32, 49, 32, 52, 10, 99, 108, 105, 101, 110, 116, 32, 50, 10, 124, 32, 98, 101, 103, 105, 110, 10, 124, 32, 99, 111, 109, 109, 105, 116, 10, 115, 116, 101, 112, 32, 48, 32, 42, 32, 51, 10, 114, 111, 116, 32, 57, 32, 49, 32, 50, 10, 102, 97, 105, 108, 32, 55, 10]
theorem sane1_parse : parse sane1 = (exSc, 0, 0) := by decide +kernel
def sane2 : Bytes := [108, 105, 110, 101, 115, 32, 54, 52, 48, 10, 35, 32, 120, 10, 10, 115, 101, 116, 32, 52, 32, 54, 52, 32, 49, 32, 52, 10, 99, 108, 105, 101, 110, 116, 32, 50, 10, 124, 32, 98, 101, 103, 105, 110, 10, 124, 32, 99, 111, 109, 109, 105, 116, 10, 115, 116, 101, 112, 32, 48, 10, 115, 116, 101, 112, 32, 48, 32, 42, 32, 50, 10, 114, 111, 116, 32, 57, 32, 49, 32, 50, 10, 102, 97, 105, 108, 32, 55, 10]
theorem sane2_parse : parse sane2 = (exSc, 0, 0) := by decide +kernel
def sane3 : Bytes := [108, 105, 110, 101, 115, 32, 54, 52, 48, 10, 115, 101, 116, 32, 52, 32, 54, 52, 32, 49, 10]
theorem sane3_parse : parse sane3 = (Sc.zero, 1, 380) := by decide +kernel
def sane4 : Bytes := [108, 105, 110, 101, 115, 32, 48, 54, 52, 10]
theorem sane4_parse : parse sane4 = (Sc.zero, 0, 381) := by decide +kernel
def sane5 : Bytes := []
theorem sane5_parse : parse sane5 = (Sc.zero, 0, 380) := by decide +kernel
def sane6 : Bytes := [108, 105, 110, 101, 115, 32, 49, 10]
theorem sane6_parse : parse sane6 = (Sc.zero, 1, 380) := by decide +kernel
def sane7 : Bytes := [108, 105, 110, 101, 115, 32, 54, 52, 48, 10, 115, 101, 116, 32, 52, 32, 54, 52, 32, 49, 32, 52, 10, 115, 116, 101, 112, 32, 48, 32, 42, 32, 48, 10]
theorem sane7_parse : parse sane7 = (Sc.zero, 2, 381) := by decide +kernel
def sane8 : Bytes := [108, 105, 110, 101, 115, 32, 54, 52, 48, 10, 115, 101, 116, 32, 52, 32, 54, 52, 32, 49, 32, 52, 10, 115, 116, 101, 112, 32, 48, 32, 42, 32, 50, 48, 48, 49, 10]
theorem sane8_parse : parse sane8 = (Sc.zero, 2, 2) := by decide +kernel
set_option maxRecDepth 100000 in
set_option maxHeartbeats 16000000 in
theorem sanity_any (w : World) (he : Env w) : Calls Tryz.prog 10 #[] w fun e w' => e = .returned (.bool true) ∧ Below w.heap.size w w' := by
  have HE := Lib.hid he
  have CE := Lib.hid (fun w => example_any w)
  have P1 := Lib.hid (fun w he => parse_at sane1 _ sane1_parse w he)
  simp only [exSc, List.length_cons, List.length_nil, Nat.reduceAdd, sane1] at P1
  have P2 := Lib.hid (fun w he => parse_at sane2 _ sane2_parse w he)
  simp only [exSc, List.length_cons, List.length_nil, Nat.reduceAdd, sane2] at P2
  have P3 := Lib.hid (fun w he => parse_at sane3 _ sane3_parse w he)
  simp only [Sc.zero, List.length_nil, sane3] at P3
  have P4 := Lib.hid (fun w he => parse_at sane4 _ sane4_parse w he)
  simp only [Sc.zero, List.length_nil, sane4] at P4
  have P5 := Lib.hid (fun w he => parse_at sane5 _ sane5_parse w he)
  simp only [Sc.zero, List.length_nil, sane5] at P5
  have P6 := Lib.hid (fun w he => parse_at sane6 _ sane6_parse w he)
  simp only [Sc.zero, List.length_nil, sane6] at P6
  have P7 := Lib.hid (fun w he => parse_at sane7 _ sane7_parse w he)
  simp only [Sc.zero, List.length_nil, sane7] at P7
  have P8 := Lib.hid (fun w he => parse_at sane8 _ sane8_parse w he)
  simp only [Sc.zero, List.length_nil, sane8] at P8
  have CP := Lib.hid (fun cv av w he h => print_any exSc cv av w he h ex_modest (fun _ => ex_len))
  have CC := Lib.hid (fun cv av w he h => check_ex cv av w he h)
  have CS := Lib.hid (fun cv av cv' av' w h h' => same_same exSc cv av cv' av' w h h' ex_modest)
  have S0 : Hid (St w w []) := St.start w
  rw [ex_print] at CP
  unfold PrintRes at CP
  simp only [scVal, exSc, exText] at CP CC CS CE
  clear he
  go_enter Tryz.func10, Tryz.ntmps10
  go_wp2_with fail
  refine Calls.mono (CE.out _) ?_
  rintro e w' ⟨rfl, rfl⟩
  go_wp2_with fail
  refine Calls.mono (P1.out _ HE.out) ?_
  rintro e w1 ⟨a1, c1, b1, d1, rfl, hsc1, hb1⟩
  have T1 := Lib.hid (St.alloc (St.alloc (S0.out.kept hb1) (cs := #[.int .i64 640, .int .i64 4, .int .i64 64, .int .i64 1, .int .i64 4, .slice a1 1 c1, .slice b1 5 d1]) (t := 28)) (cs := #[.int .i64 0, .int .i64 0]) (t := 31))
  simp only [World.size_alloc] at T1
  have V1 := Lib.hid hsc1
  have hba := ((Below.refl w1.heap.size w1).alloc (Nat.le_refl _) (.cells #[.int .i64 640, .int .i64 4, .int .i64 64, .int .i64 1, .int .i64 4, .slice a1 1 c1, .slice b1 5 d1] 28)).alloc (by simp) (.cells #[.int .i64 0, .int .i64 0] 31)
  have V2 := Lib.hid (V1.out.kept hba)
  clear hsc1 hb1 hba
  go_wp2_with fail
  refine Calls.mono (CP.out _ _ _ (HE.out.kept T1.out.below) V2.out) ?_
  rintro e w2 ⟨rfl, hb2⟩
  have S2 := Lib.hid (T1.out.kept hb2)
  have V3 := Lib.hid (V2.out.kept hb2)
  clear hb2 T1 V1 V2
  go_wp2_with fail
  refine Calls.mono (P2.out _ (HE.out.kept S2.out.below)) ?_
  rintro e w3 ⟨a2, c2, b2, d2, rfl, hsc2, hb3⟩
  have T3 := Lib.hid (St.alloc (St.alloc (S2.out.kept hb3) (cs := #[.int .i64 640, .int .i64 4, .int .i64 64, .int .i64 1, .int .i64 4, .slice a2 1 c2, .slice b2 5 d2]) (t := 28)) (cs := #[.int .i64 0, .int .i64 0]) (t := 31))
  simp only [World.size_alloc] at T3
  have hba := ((Below.refl w3.heap.size w3).alloc (Nat.le_refl _) (.cells #[.int .i64 640, .int .i64 4, .int .i64 64, .int .i64 1, .int .i64 4, .slice a2 1 c2, .slice b2 5 d2] 28)).alloc (by simp) (.cells #[.int .i64 0, .int .i64 0] 31)
  have X3 := Lib.hid ((V3.out.kept hb3).kept hba)
  have Y3 := Lib.hid (hsc2.kept hba)
  clear hb3 S2 V3 hsc2 hba
  go_wp2_with fail
  refine Calls.mono (P3.out _ (HE.out.kept T3.out.below)) ?_
  rintro e w4 ⟨za, zc, zb, zd, rfl, _, hb⟩
  have T4 := Lib.hid (St.alloc (St.laid (T3.out.kept hb) (o := .cells #[.int .i64 0, .int .i64 0, .int .i64 0, .int .i64 0, .int .i64 0, .slice za 0 zc, .slice zb 0 zd] 28)) (cs := #[.int .i64 1, .int .i64 380]) (t := 31))
  simp only [World.size_alloc] at T4
  have hba := hb.step (((Below.refl w4.heap.size w4).alloc (Nat.le_refl _) (.cells #[.int .i64 0, .int .i64 0, .int .i64 0, .int .i64 0, .int .i64 0, .slice za 0 zc, .slice zb 0 zd] 28)).alloc (by simp) (.cells #[.int .i64 1, .int .i64 380] 31))
  have X4 := Lib.hid (X3.out.kept hba)
  have Y4 := Lib.hid (Y3.out.kept hba)
  clear hb hba T3 X3 Y3
  go_wp2_with fail
  refine Calls.mono (P4.out _ (HE.out.kept T4.out.below)) ?_
  rintro e w5 ⟨za, zc, zb, zd, rfl, _, hb⟩
  have T5 := Lib.hid (St.alloc (St.laid (T4.out.kept hb) (o := .cells #[.int .i64 0, .int .i64 0, .int .i64 0, .int .i64 0, .int .i64 0, .slice za 0 zc, .slice zb 0 zd] 28)) (cs := #[.int .i64 0, .int .i64 381]) (t := 31))
  simp only [World.size_alloc] at T5
  have hba := hb.step (((Below.refl w5.heap.size w5).alloc (Nat.le_refl _) (.cells #[.int .i64 0, .int .i64 0, .int .i64 0, .int .i64 0, .int .i64 0, .slice za 0 zc, .slice zb 0 zd] 28)).alloc (by simp) (.cells #[.int .i64 0, .int .i64 381] 31))
  have X5 := Lib.hid (X4.out.kept hba)
  have Y5 := Lib.hid (Y4.out.kept hba)
  clear hb hba T4 X4 Y4
  go_wp2_with fail
  refine Calls.mono (P5.out _ (HE.out.kept T5.out.below)) ?_
  rintro e w6 ⟨za, zc, zb, zd, rfl, _, hb⟩
  have T6 := Lib.hid (St.alloc (St.laid (T5.out.kept hb) (o := .cells #[.int .i64 0, .int .i64 0, .int .i64 0, .int .i64 0, .int .i64 0, .slice za 0 zc, .slice zb 0 zd] 28)) (cs := #[.int .i64 0, .int .i64 380]) (t := 31))
  simp only [World.size_alloc] at T6
  have hba := hb.step (((Below.refl w6.heap.size w6).alloc (Nat.le_refl _) (.cells #[.int .i64 0, .int .i64 0, .int .i64 0, .int .i64 0, .int .i64 0, .slice za 0 zc, .slice zb 0 zd] 28)).alloc (by simp) (.cells #[.int .i64 0, .int .i64 380] 31))
  have X6 := Lib.hid (X5.out.kept hba)
  have Y6 := Lib.hid (Y5.out.kept hba)
  clear hb hba T5 X5 Y5
  go_wp2_with fail
  refine Calls.mono (P6.out _ (HE.out.kept T6.out.below)) ?_
  rintro e w7 ⟨za, zc, zb, zd, rfl, _, hb⟩
  have T7 := Lib.hid (St.alloc (St.laid (T6.out.kept hb) (o := .cells #[.int .i64 0, .int .i64 0, .int .i64 0, .int .i64 0, .int .i64 0, .slice za 0 zc, .slice zb 0 zd] 28)) (cs := #[.int .i64 1, .int .i64 380]) (t := 31))
  simp only [World.size_alloc] at T7
  have hba := hb.step (((Below.refl w7.heap.size w7).alloc (Nat.le_refl _) (.cells #[.int .i64 0, .int .i64 0, .int .i64 0, .int .i64 0, .int .i64 0, .slice za 0 zc, .slice zb 0 zd] 28)).alloc (by simp) (.cells #[.int .i64 1, .int .i64 380] 31))
  have X7 := Lib.hid (X6.out.kept hba)
  have Y7 := Lib.hid (Y6.out.kept hba)
  clear hb hba T6 X6 Y6
  go_wp2_with fail
  refine Calls.mono (P7.out _ (HE.out.kept T7.out.below)) ?_
  rintro e w8 ⟨za, zc, zb, zd, rfl, _, hb⟩
  have T8 := Lib.hid (St.alloc (St.laid (T7.out.kept hb) (o := .cells #[.int .i64 0, .int .i64 0, .int .i64 0, .int .i64 0, .int .i64 0, .slice za 0 zc, .slice zb 0 zd] 28)) (cs := #[.int .i64 2, .int .i64 381]) (t := 31))
  simp only [World.size_alloc] at T8
  have hba := hb.step (((Below.refl w8.heap.size w8).alloc (Nat.le_refl _) (.cells #[.int .i64 0, .int .i64 0, .int .i64 0, .int .i64 0, .int .i64 0, .slice za 0 zc, .slice zb 0 zd] 28)).alloc (by simp) (.cells #[.int .i64 2, .int .i64 381] 31))
  have X8 := Lib.hid (X7.out.kept hba)
  have Y8 := Lib.hid (Y7.out.kept hba)
  clear hb hba T7 X7 Y7
  go_wp2_with fail
  refine Calls.mono (P8.out _ (HE.out.kept T8.out.below)) ?_
  rintro e w9 ⟨za, zc, zb, zd, rfl, _, hb⟩
  have T9 := Lib.hid (St.alloc (St.laid (T8.out.kept hb) (o := .cells #[.int .i64 0, .int .i64 0, .int .i64 0, .int .i64 0, .int .i64 0, .slice za 0 zc, .slice zb 0 zd] 28)) (cs := #[.int .i64 2, .int .i64 2]) (t := 31))
  simp only [World.size_alloc] at T9
  have F9 := (T8.out.kept hb).facts
  simp only [St.Facts, cellFacts, apartFacts, and_true] at F9
  have hba := hb.step (((Below.refl w9.heap.size w9).alloc (Nat.le_refl _) (.cells #[.int .i64 0, .int .i64 0, .int .i64 0, .int .i64 0, .int .i64 0, .slice za 0 zc, .slice zb 0 zd] 28)).alloc (by simp) (.cells #[.int .i64 2, .int .i64 2] 31))
  have X9 := Lib.hid (X8.out.kept hba)
  have Y9 := Lib.hid (Y8.out.kept hba)
  clear hb hba T8 X8 Y8
  go_wp2_with fail
  refine Calls.mono (CC.out _ _ _ (HE.out.kept T9.out.below) X9.out) ?_
  rintro e w10 ⟨rfl, hb⟩
  have S10 := Lib.hid (T9.out.kept hb)
  have X10 := Lib.hid (X9.out.kept hb)
  have Y10 := Lib.hid (Y9.out.kept hb)
  clear hb F9 T9 X9 Y9
  have F10 := S10.out.facts
  simp only [St.Facts, cellFacts, apartFacts, and_true] at F10
  go_wp2_with (go_at_call 18; refine Calls.mono (CE.out _) ?_; rintro e w' ⟨rfl, rfl⟩)
  refine Calls.mono (CS.out _ _ _ _ _ X10.out Y10.out) ?_
  rintro e w11 ⟨rfl, hb⟩
  have S11 := Lib.hid (S10.out.kept hb)
  clear hb F10 S10 X10 Y10
  have F11 := S11.out.facts
  simp only [St.Facts, cellFacts, apartFacts, and_true] at F11
  go_wp2_with fail
  go_returns
  exact ⟨rfl, S11.out.below⟩
end Go.Proofs.YtialgdnkkjmpbaaGreatDoor
