/-
  The walk of the law ScriptIsLimited. Conditions: the variables of the program's text are there. The memory that was there is as it was.
-/
import Derived.Test.YtialgdnkkjmpbaaGreatDoorXd
import Derived.Test.YtialgdnkkjmpbaaGreatDoorL4a
namespace Go.Proofs.YtialgdnkkjmpbaaGreatDoor
open Go.RowKit Go.Sort

theorem str_app (a b : Bytes) : (⟨a.toArray⟩ ++ ⟨b.toArray⟩ : ByteArray) = ⟨(a ++ b).toArray⟩ := by
  apply ByteArray.ext
  simp
theorem head_app (Y : Bytes) : ({ data := #[108, 105, 110, 101, 115, 32, 54, 52, 48, 10, 115, 101, 116, 32, 52, 32, 54, 52, 32, 49, 32, 52, 10] } ++ { data := Y.toArray } ++ { data := #[10] } : ByteArray) = ⟨(headText ++ (Y ++ [10])).toArray⟩ := by
  rw [show ({ data := #[108, 105, 110, 101, 115, 32, 54, 52, 48, 10, 115, 101, 116, 32, 52, 32, 54, 52, 32, 49, 32, 52, 10] } : ByteArray) = ⟨headText.toArray⟩ from rfl, show ({ data := #[10] } : ByteArray) = ⟨([10] : Bytes).toArray⟩ from rfl, str_app, str_app, List.append_assoc]
theorem parse_head (Y : Bytes) (n : Nat) (hY : Y = hashes n) (hn : n ≤ 199976) (w : World) (he : Env w) : Calls Tryz.prog 11 #[.string ({ data := #[108, 105, 110, 101, 115, 32, 54, 52, 48, 10, 115, 101, 116, 32, 52, 32, 54, 52, 32, 49, 32, 52, 10] } ++ { data := Y.toArray } ++ { data := #[10] })] w fun e w' => ∃ a1 c1 a2 c2,
    e = .returned (.tuple #[.agg #[.int .i64 640, .int .i64 4, .int .i64 64, .int .i64 1, .int .i64 4, .slice a1 0 c1, .slice a2 0 c2], .agg #[.int .i64 0, .int .i64 0]]) ∧ ScAt w' (.slice a1 0 c1) (.slice a2 0 c2) headSc ∧ Below w.heap.size w w' := by
  rw [head_app]
  exact parse_at (headText ++ (Y ++ [10])) (headSc, 0, 0) (by rw [hY]; exact parse_short n hn) w he
theorem long_start (Y : Bytes) (hY : Y = hashes 199976) : ({ data := #[108, 105, 110, 101, 115, 32, 54, 52, 48, 10, 115, 101, 116, 32, 52, 32, 54, 52, 32, 49, 32, 52, 10] } ++ { data := Y.toArray } ++ { data := #[10] } : ByteArray) = ⟨(longT 0).toArray⟩ := by
  rw [head_app, hY]
  rfl
theorem head_modest : Modest headSc := ⟨by decide, by decide, by decide⟩
theorem zero_modest : Modest Sc.zero := ⟨by decide, by decide, by decide⟩
set_option maxRecDepth 100000 in
set_option maxHeartbeats 8000000 in
theorem law4 (m n : Nat) (hm : m ≤ 255) (hn : n ≤ 65535) (w : World) (he : Env w) : Calls Tryz.prog 4 #[.int .u8 (m : Int), .int .u16 (n : Int)] w fun e w' => e = .returned (.bool true) ∧ Below w.heap.size w w' := by
  have HE := Lib.hid he
  have C0 := Lib.hid (fun w he => sanity_any w he)
  have S0 : Hid (St w w []) := St.start w
  have mk := fun w => make_hashed w
  clear he
  go_enter Tryz.func4, Tryz.ntmps4
  go_wp2_with fail
  refine Calls.mono (C0.out _ HE.out) ?_
  rintro e w1 ⟨rfl, hb1⟩
  refine St.call (S0.out) hb1 ?_
  intro S1
  clear hb1
  try (simp only [List.set_cons_zero, List.set_cons_succ, List.setIfInBounds_toArray, World.size_alloc] at S1)
  go_wp2_with fail
  have SB : Hid (St w (w1.alloc (.cells (hashed 0) 5)) [(w1.heap.size, hashed 0, 5)]) := St.alloc S1.out
  clear S1
  generalize w1.heap.size = b at *
  go_loopw [8] (fun i wr => ∃ k : Nat, k ≤ 199976 ∧ i = .int .i64 k ∧ Hid (St w wr [(b, hashed k, 5)])) (fun i _ => 199976 - (intOf i).toNat)
  case atStart => exact ⟨0, by omega, rfl, SB.out⟩
  case round =>
    clear SB
    obtain ⟨k, hk, rfl, SR⟩ := hrel
    have B := SR.out.blk 0 rfl
    by_cases hlt : k < 199976
    · have x1 : wr.cell? ⟨b, k, none⟩ = some (.int .u8 0) := by simp only [World.cell?, B]; exact hashed_at k hlt
      have x2 : wr.frozen? ⟨b, k, none⟩ = false := by simp [World.frozen?, B]
      have hl : (k : Int) < 199976 := by omega
      have SN : Hid (St w (wr.setCell ⟨b, k, none⟩ (.int .u8 35)) [(b, hashed (k + 1), 5)]) := by
        show St _ _ _
        have := St.set 0 (o := k) (v := .int .u8 35) SR.out rfl
        rw [hashed_set k hlt] at this
        exact this
      clear B
      go_wp2_with fail
      go_roundw
      case rel => exact ⟨k + 1, by omega, by go_num, SN.out⟩
      case measure => simp [intOf]; omega
    · obtain rfl : k = 199976 := by omega
      have cv1 := conv_hashed wr b n 199976 B (by omega)
      have cv2 := conv_hashed wr b 199976 199976 B (by omega)
      have hx0 := hashes_len n
      have hy0 := hashes_len 199976
      obtain ⟨X, HX⟩ : ∃ X, Hid (X = hashes n) := ⟨_, rfl⟩
      obtain ⟨Y, HY⟩ : ∃ Y, Hid (Y = hashes 199976) := ⟨_, rfl⟩
      rw [← HX.out] at cv1 hx0
      rw [← HY.out] at cv2 hy0
      have hx : X.length ≤ 199976 := by omega
      have hy : Y.length ≤ 199976 := by omega
      have P1 := Lib.hid (fun w he => parse_head Y 199976 HY.out (by omega) w he)
      have P2 := Lib.hid (fun w he => parse_head X n HX.out (by omega) w he)
      have HL := Lib.hid (long_start Y HY.out)
      have CS := Lib.hid (fun cv av cv' av' w h h' => same_same headSc cv av cv' av' w h h' head_modest)
      have CZ := Lib.hid (fun cv av cv' av' w h h' => same_same Sc.zero cv av cv' av' w h h' zero_modest)
      simp only [scVal, headSc, Sc.zero] at CS CZ
      clear hlt B hx0 hy0 HX
      go_wp2_with fail
      go_loopw [10, 11] (fun o i wr => ∃ j Z, j ≤ m + 1 ∧ i = .int .i64 (j : Int) ∧ o = .string ⟨Z.toArray⟩ ∧ Hid (Z = longT j) ∧ Z.length ≤ 300000 ∧ Hid (St w wr [(b, hashed 199976, 5)])) (fun _ i _ => m + 1 - (intOf i).toNat)
      case atStart => exact ⟨0, longT 0, by omega, rfl, congrArg Value.string HL.out, rfl, by rw [longT_len]; omega, SR.out⟩
      case round =>
        clear SR
        obtain ⟨j, Z, hj, rfl, rfl, HZ, hz, SR⟩ := hrel
        by_cases hlt : j ≤ m
        · have hl : (j : Int) ≤ (m : Int) := by omega
          have HZ2 : Hid (Z ++ [10] = longT (j + 1)) := by show _ = _; rw [HZ.out]; exact longT_more j
          have hz2 : (Z ++ [10]).length ≤ 300000 := by rw [HZ2.out, longT_len]; omega
          have HA := Lib.hid (str_app Z [10])
          clear HZ
          go_wp2_with fail
          go_roundw
          case rel => exact ⟨j + 1, Z ++ [10], by omega, by go_num, congrArg Value.string HA.out, HZ2.out, hz2, SR.out⟩
          case measure => simp [intOf]; omega
        · obtain rfl : j = m + 1 := by omega
          have P3 := Lib.hid (fun w he => parse_at Z (Sc.zero, 0, 2) (by rw [HZ.out]; exact parse_long (m + 1) (by omega)) w he)
          simp only [Sc.zero, List.length_nil] at P3
          have hl : ¬ ((m + 1 : Nat) : Int) ≤ (m : Int) := by omega
          have cv3 := conv_hashed wr b 199976 199976 (SR.out.blk 0 rfl) (by omega)
          rw [← HY.out] at cv3
          clear hlt HZ
          go_wp2_with fail
          refine Calls.mono (P1.out _ (HE.out.kept SR.out.below)) ?_
          rintro e w2 ⟨a1, c1, b1, d1, rfl, hsc1, hb1⟩
          have T1 := Lib.hid (St.alloc (St.alloc (SR.out.kept hb1) (cs := #[.int .i64 640, .int .i64 4, .int .i64 64, .int .i64 1, .int .i64 4, .slice a1 0 c1, .slice b1 0 d1]) (t := 28)) (cs := #[.int .i64 0, .int .i64 0]) (t := 31))
          simp only [World.size_alloc] at T1
          have hba := ((Below.refl w2.heap.size w2).alloc (Nat.le_refl _) (.cells #[.int .i64 640, .int .i64 4, .int .i64 64, .int .i64 1, .int .i64 4, .slice a1 0 c1, .slice b1 0 d1] 28)).alloc (by simp) (.cells #[.int .i64 0, .int .i64 0] 31)
          have V1 := Lib.hid (hsc1.kept hba)
          clear hsc1 hb1 hba SR
          go_wp2_with fail
          refine Calls.mono (P2.out _ (HE.out.kept T1.out.below)) ?_
          rintro e w3 ⟨a2, c2, b2, d2, rfl, hsc2, hb2⟩
          have T2 := Lib.hid (St.alloc (St.alloc (T1.out.kept hb2) (cs := #[.int .i64 640, .int .i64 4, .int .i64 64, .int .i64 1, .int .i64 4, .slice a2 0 c2, .slice b2 0 d2]) (t := 28)) (cs := #[.int .i64 0, .int .i64 0]) (t := 31))
          simp only [World.size_alloc] at T2
          have hba := ((Below.refl w3.heap.size w3).alloc (Nat.le_refl _) (.cells #[.int .i64 640, .int .i64 4, .int .i64 64, .int .i64 1, .int .i64 4, .slice a2 0 c2, .slice b2 0 d2] 28)).alloc (by simp) (.cells #[.int .i64 0, .int .i64 0] 31)
          have V2 := Lib.hid ((V1.out.kept hb2).kept hba)
          have X2 := Lib.hid (hsc2.kept hba)
          clear hsc2 hb2 hba T1 V1
          go_wp2_with fail
          refine Calls.mono (P3.out _ (HE.out.kept T2.out.below)) ?_
          rintro e w4 ⟨za, zc, zb, zd, rfl, hsc3, hb3⟩
          have T3 := Lib.hid (St.alloc (St.alloc (T2.out.kept hb3) (cs := #[.int .i64 0, .int .i64 0, .int .i64 0, .int .i64 0, .int .i64 0, .slice za 0 zc, .slice zb 0 zd]) (t := 28)) (cs := #[.int .i64 0, .int .i64 2]) (t := 31))
          simp only [World.size_alloc] at T3
          have hba := ((Below.refl w4.heap.size w4).alloc (Nat.le_refl _) (.cells #[.int .i64 0, .int .i64 0, .int .i64 0, .int .i64 0, .int .i64 0, .slice za 0 zc, .slice zb 0 zd] 28)).alloc (by simp) (.cells #[.int .i64 0, .int .i64 2] 31)
          have V3 := Lib.hid ((V2.out.kept hb3).kept hba)
          have X3 := Lib.hid ((X2.out.kept hb3).kept hba)
          have Z3 := Lib.hid (hsc3.kept hba)
          have F3 := (T2.out.kept hb3).facts
          simp only [St.Facts, cellFacts, apartFacts, and_true] at F3
          clear hsc3 hb3 hba T2 V2 X2
          go_wp2_with fail
          refine Calls.mono (CS.out _ _ _ _ _ V3.out X3.out) ?_
          rintro e w5 ⟨rfl, hb5⟩
          have S5 := Lib.hid (T3.out.kept hb5)
          have Z5 := Lib.hid (Z3.out.kept hb5)
          clear hb5 F3 T3 V3 X3 Z3
          have F5 := S5.out.facts
          simp only [St.Facts, cellFacts, apartFacts, and_true] at F5
          go_wp2_with fail
          refine Calls.mono (CZ.out _ _ _ _ _ Z5.out (scAt_zero _)) ?_
          rintro e w6 ⟨rfl, hb6⟩
          have S6 := Lib.hid (S5.out.kept hb6)
          clear hb6 F5
          go_wp2_with fail
          go_returns
          exact ⟨rfl, S6.out.below⟩
theorem law4i (a b : Int) (ha : 0 ≤ a ∧ a ≤ 255) (hb : 0 ≤ b ∧ b ≤ 65535) (w : World) (he : Env w) : Calls Tryz.prog 4 #[.int .u8 a, .int .u16 b] w fun e w' => e = .returned (.bool true) ∧ Below w.heap.size w w' := by
  obtain ⟨m, rfl⟩ := Int.eq_ofNat_of_zero_le ha.1
  obtain ⟨n, rfl⟩ := Int.eq_ofNat_of_zero_le hb.1
  exact law4 m n (by omega) (by omega) w he
end Go.Proofs.YtialgdnkkjmpbaaGreatDoor
