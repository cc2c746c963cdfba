/-
  Walks: hex, Print of the reference, Print of the package value at every right value (the table of powers of ten read as laid). The memory that was there is as it was.
-/
import Derived.Test.YtbpnnhdhpahbjaaDoorWp
import Derived.Test.YtbpnnhdhpahbjaaDoorShelfA
import Derived.Lib.AppendIntMem
namespace Go.Proofs.YtbpnnhdhpahbjaaDoor
open Go.RowKit Go.Sort

theorem conv_hex (d : Nat) (h : d < 16) (w : World) : (convert 3 5 (.int .i64 (if d < 10 then 48 + (d : Int) else 87 + (d : Int)))).run Tryd.prog w = .ok (.int .u8 ((hexD d).toNat : Int)) w := by
  obtain rfl | rfl | rfl | rfl | rfl | rfl | rfl | rfl | rfl | rfl | rfl | rfl | rfl | rfl | rfl | rfl := lt16 d h
  all_goals kernel_rfl
theorem hex_any (d : Nat) (h : d < 16) (w : World) : Calls Tryd.prog 57 #[.int .i64 (d : Int)] w fun e w' => e = .returned (.int .u8 ((hexD d).toNat : Int)) ∧ w = w' := by
  have hc := fun w => conv_hex d h w
  by_cases h10 : d < 10
  · rw [if_pos h10] at hc
    go_enter Tryd.func57, Tryd.ntmps57
    go_wp2
    go_returns
    exact ⟨rfl, rfl⟩
  · rw [if_neg h10] at hc
    go_enter Tryd.func57, Tryd.ntmps57
    go_wp2
    go_returns
    exact ⟨rfl, rfl⟩
theorem hex_div (c : Nat) (h : c < 256) (w : World) : Calls Tryd.prog 57 #[.int .i64 ((c : Int) / 16)] w fun e w' => e = .returned (.int .u8 ((hexD (c / 16)).toNat : Int)) ∧ w = w' := by
  rw [show (c : Int) / 16 = ((c / 16 : Nat) : Int) by omega]; exact hex_any _ (by omega) w
theorem hex_mod (c : Nat) (w : World) : Calls Tryd.prog 57 #[.int .i64 ((c : Int) % 16)] w fun e w' => e = .returned (.int .u8 ((hexD (c % 16)).toNat : Int)) ∧ w = w' := by
  rw [show (c : Int) % 16 = ((c % 16 : Nat) : Int) by omega]; exact hex_any _ (by omega) w

/-- P19.6: the text of a value. -/
def V.print (v : V) : List UInt8 :=
  if v.k = 1 then Lib.itoa v.n else if v.k = 3 then Lib.formatBool (v.n == 1) else if v.k = 0 then [110, 117, 108, 108] else printText v.s

set_option maxRecDepth 100000 in
set_option maxHeartbeats 800000 in
theorem refPrint_text (s : ByteArray) (n : Int) (w : World) (hs : s.size ≤ 1000000) :
    Calls Tryd.prog 30 #[.agg #[.int .i64 2, .int .i64 n, .string s]] w fun e w' => e = .returned (.string ⟨(printText s).toArray⟩) ∧ Below w.heap.size w w' := by
  go_enter Tryd.func30, Tryd.ntmps30
  go_wp2_with fail
  go_loopw [3, 4] (fun o i wr => ∃ k : Nat, k ≤ s.size ∧ i = .int .i64 k ∧ OwnsBytes wr (w.heap.size + 1) o (escTo s k) ∧ Below (w.heap.size + 1) (w.alloc (Obj.cells #[.int .i64 2, .int .i64 n, .string s] 23)) wr) (fun _ i _ => s.size - (intOf i).toNat)
  case atStart => exact ⟨0, by omega, rfl, ⟨rfl, Or.inr ⟨w.heap.size + 1, 1, #[.int .u8 39], rfl, Nat.le_refl _, by repeat (first | (refine blk_same _ _ _ ?_; focus (simp; done)) | (refine blk_old ?_ ?_; focus (first | omega | (simp; done) | (simp; omega)))), Nat.le_refl _, by simp [maxLen], rfl, rfl⟩⟩, (Below.refl _ _).alloc (by simp) _⟩
  case round =>
    obtain ⟨k, hk, rfl, hown, hb⟩ := hrel
    have HO := Lib.hid hown
    have HB := Lib.hid hb
    have x2 : wr.cell? ⟨w.heap.size, 2, none⟩ = some (.string s) := hb.cell_some (by omega) (by go_cell)
    clear hown hb
    by_cases hlt : k < s.size
    · have hb256 : s[k].toNat < 256 := s[k].toNat_lt
      have hlen := escLen s k
      cases hp : plainB (s[k].toNat : Int)
      · have HP : Hid (plainB (s[k].toNat : Int) = false) := hp
        have hp' : decide ((s[k].toNat : Int) < 32) = true ∨ (decide ((s[k].toNat : Int) < 32) = false ∧ decide (126 < (s[k].toNat : Int)) = true) ∨ (decide ((s[k].toNat : Int) < 32) = false ∧ decide (126 < (s[k].toNat : Int)) = false ∧ ((s[k].toNat : Int) == 39) = true) ∨ (decide ((s[k].toNat : Int) < 32) = false ∧ decide (126 < (s[k].toNat : Int)) = false ∧ ((s[k].toNat : Int) == 39) = false ∧ ((s[k].toNat : Int) == 92) = true) := by
          unfold plainB at hp; simp at hp ⊢; omega
        have H1 := Lib.hid (fun w => hex_div s[k].toNat hb256 w)
        have H2 := Lib.hid (fun w => hex_mod s[k].toNat w)
        clear hp
        rcases hp' with t1 | ⟨t1, t2⟩ | ⟨t1, t2, t3⟩ | ⟨t1, t2, t3, t4⟩
        all_goals
          go_wp2_with fail
          refine (H1.out _).mono ?_
          rintro e w' ⟨rfl, rfl⟩
          go_wp2_with fail
          refine (H2.out _).mono ?_
          rintro e w' ⟨rfl, rfl⟩
          go_wp2_with (at_builtin; go_must (refine wpList_append_new rfl _ _ 63 rfl 5 (.int .u8 0) 1 Tryd.underlying63 info5 rfl (w.heap.size + 1) u3 _ _ rfl HO.out #[.int .u8 92, .int .u8 ((hexD (s[k].toNat / 16)).toNat : Int), .int .u8 ((hexD (s[k].toNat % 16)).toNat : Int)] wr.heap.size rfl rfl (by simp [Value.oneCell']) (by simp; omega) (by simp [maxLen]; omega) (by have := HB.out.size; simp at this; omega) ?_))
          intro v3 w3 hown3 hg3
          have HO3 := Lib.hid hown3
          have HB3 : Hid (Below (w.heap.size + 1) (w.alloc (Obj.cells #[.int .i64 2, .int .i64 n, .string s] 23)) w3) := Below.grown HB.out hg3 (by have := HB.out.size; simp at this; omega) (fun k hk => (World.ownsRow.lt HO.out k hk).1)
          clear hown3 hg3
          go_wp2_with fail
          go_roundw
          case rel => exact ⟨k + 1, by omega, by go_num, OwnsBytes.of HO3.out (by rw [esc_snoc s k hlt, escB, HP.out, bytesV_append]; rfl), HB3.out⟩
          case measure => simp [intOf]; omega
      · have HP : Hid (plainB (s[k].toNat : Int) = true) := hp
        have hp' : decide ((s[k].toNat : Int) < 32) = false ∧ decide (126 < (s[k].toNat : Int)) = false ∧ ((s[k].toNat : Int) == 39) = false ∧ ((s[k].toNat : Int) == 92) = false := by
          unfold plainB at hp; simp at hp ⊢; omega
        clear hp
        obtain ⟨t1, t2, t3, t4⟩ := hp'
        go_wp2_with (at_builtin; go_must (refine wpList_append_new rfl _ _ 63 rfl 5 (.int .u8 0) 1 Tryd.underlying63 info5 rfl (w.heap.size + 1) u3 _ _ rfl HO.out #[.int .u8 (s[k].toNat : Int)] wr.heap.size rfl rfl (by simp [Value.oneCell']) (by simp; omega) (by simp [maxLen]; omega) (by have := HB.out.size; simp at this; omega) ?_))
        intro v3 w3 hown3 hg3
        have HO3 := Lib.hid hown3
        have HB3 : Hid (Below (w.heap.size + 1) (w.alloc (Obj.cells #[.int .i64 2, .int .i64 n, .string s] 23)) w3) := Below.grown HB.out hg3 (by have := HB.out.size; simp at this; omega) (fun k hk => (World.ownsRow.lt HO.out k hk).1)
        clear hown3 hg3
        go_wp2_with fail
        go_roundw
        case rel => exact ⟨k + 1, by omega, by go_num, OwnsBytes.of HO3.out (by rw [esc_snoc s k hlt, escB, HP.out, bytesV_append]; rfl), HB3.out⟩
        case measure => simp [intOf]; omega
    · obtain rfl : k = s.size := by omega
      have hlen := escLen s s.size
      go_wp2_with (at_builtin; go_must (refine wpList_append_new rfl _ _ 63 rfl 5 (.int .u8 0) 1 Tryd.underlying63 info5 rfl (w.heap.size + 1) u3 _ _ rfl HO.out #[.int .u8 39] wr.heap.size rfl rfl (by simp [Value.oneCell']) (by simp; omega) (by simp [maxLen]; omega) (by have := HB.out.size; simp at this; omega) ?_))
      intro v3 w3 hown3 hg3
      have ho3 : OwnsBytes w3 (w.heap.size + 1) v3 (printText s) := OwnsBytes.of hown3 (by rw [← esc_all, bytesV_append]; rfl)
      have HB3 : Hid (Below (w.heap.size + 1) (w.alloc (Obj.cells #[.int .i64 2, .int .i64 n, .string s] 23)) w3) := Below.grown HB.out hg3 (by have := HB.out.size; simp at this; omega) (fun k hk => (World.ownsRow.lt HO.out k hk).1)
      obtain ⟨g, cap, rfl, hconv⟩ := ho3.string (by simp [printText])
      clear hown3 hg3 ho3
      go_wp2_with fail
      go_returns
      exact ⟨rfl, ((Below.refl _ w).alloc (Nat.le_refl _) _).trans (HB3.out.mono (by omega))⟩

set_option maxRecDepth 100000 in
theorem refPrint_any (v : V) (hr : v.right = true) (w : World) : Calls Tryd.prog 30 #[v.val] w fun e w' => e = .returned (.string ⟨v.print.toArray⟩) ∧ Below w.heap.size w w' := by
  obtain ⟨k, n, s⟩ := v
  have hk : k = 0 ∨ k = 1 ∨ k = 2 ∨ k = 3 := by
    unfold V.right at hr; simp only at hr
    repeat' split at hr
    all_goals first | omega | (cases hr)
  unfold V.val
  obtain rfl | rfl | rfl | rfl := hk
  · clear hr
    go_enter Tryd.func30, Tryd.ntmps30
    go_wp2
    go_returns
    exact ⟨rfl, by go_grown⟩
  · have hn : -1000000000000000 ≤ n ∧ n ≤ 1000000000000000 := by simp [V.right] at hr; omega
    clear hr
    have C := Lib.hid (fun w => digits_any n hn.1 hn.2 w)
    go_enter Tryd.func30, Tryd.ntmps30
    go_wp2_with fail
    refine (C.out _).mono ?_
    rintro e w1 ⟨rfl, hb1⟩
    have HB1 := Lib.hid hb1
    clear hb1
    go_wp2_with fail
    go_returns
    exact ⟨rfl, ((Below.refl _ w).alloc (Nat.le_refl _) _).trans (HB1.out.mono (by simp))⟩
  · have hn : s.size ≤ 40 := by simp [V.right] at hr; omega
    exact refPrint_text s n w (by omega)
  · clear hr
    cases h1 : (n == 1)
    all_goals
      have H1 := Lib.hid h1
      go_enter Tryd.func30, Tryd.ntmps30
      go_wp2
      go_returns
      refine ⟨?_, by go_grown⟩
      simp [V.print, H1.out]
      rfl

set_option maxRecDepth 100000 in
theorem print_any (v : V) (hr : v.right = true) (w : World) (htab : Lib.TabIs Tryd.prog w "internal/strconv.uint64pow10" .u64 Lib.pow10Tab) :
    Calls Tryd.prog 29 #[v.val] w fun e w' => e = .returned (.string ⟨v.print.toArray⟩) ∧ Below w.heap.size w w' := by
  obtain ⟨k, n, s⟩ := v
  have hk : k = 0 ∨ k = 1 ∨ k = 2 ∨ k = 3 := by
    unfold V.right at hr; simp only at hr
    repeat' split at hr
    all_goals first | omega | (cases hr)
  unfold V.val
  obtain rfl | rfl | rfl | rfl := hk
  · clear hr
    have HT := Lib.hid htab
    clear htab
    go_enter Tryd.func29, Tryd.ntmps29
    go_wp2
    go_returns
    exact ⟨rfl, by go_grown⟩
  · have hn : -1000000000000000 ≤ n ∧ n ≤ 1000000000000000 := by simp [V.right] at hr; omega
    clear hr
    have HT := Lib.hid (Lib.tabBelow_of_tabIs htab)
    clear htab
    have C := Lib.hid (fun w h => Tryd.strconv_Itoa n (by omega) (by omega) w h)
    go_enter Tryd.func29, Tryd.ntmps29
    go_wp2_with fail
    refine (C.out _ (HT.out _ (by go_grown))).mono ?_
    rintro e w1 ⟨rfl, d, os, hw1⟩
    have HB1 : Hid (Below (w.heap.size + 1) (w.alloc (Obj.cells #[.int .i64 1, .int .i64 n, .string s] 23)) w1) := by
      show Below _ _ _
      rw [hw1]; exact Lib.below_grow _ _ (by simp) _ _
    clear hw1
    go_wp2_with fail
    go_returns
    exact ⟨rfl, ((Below.refl _ w).alloc (Nat.le_refl _) _).trans (HB1.out.mono (by simp))⟩
  · have hn : s.size ≤ 40 := by simp [V.right] at hr; omega
    exact print_text s n w (by omega)
  · clear hr htab
    have C := Lib.hid Tryd.strconv_FormatBool
    cases h1 : (n == 1)
    all_goals
      have H1 := Lib.hid h1
      go_enter Tryd.func29, Tryd.ntmps29
      go_wp2_with fail
      refine (C.out _ _).mono ?_
      rintro e w1 ⟨rfl, rfl⟩
      go_wp2_with fail
      go_returns
      refine ⟨?_, by go_grown⟩
      simp [V.print, H1.out]
end Go.Proofs.YtbpnnhdhpahbjaaDoor
