/-
  Walks: small functions of the reference: count, Words, kind, Number, all. The memory that was there is as it was.
-/
import Derived.Test.YtialgdnkkjmpbaaGreatDoorChecked
import Derived.Test.YtialgdnkkjmpbaaGreatDoorKitA
import Derived.Test.YtialgdnkkjmpbaaGreatDoorPlainA
import Derived.WalkKit
import Derived.WalkLawsBesides
import Derived.WalkSpells
import Derived.Outline
import Derived.Handy
import Derived.Lib.Hide
import Derived.Deep.QuietTactic
import Derived.BigQuiet
namespace Go.Proofs.YtialgdnkkjmpbaaGreatDoor
open Go.RowKit Go.Sort

theorem count_ref (k : Nat) (h : k ≤ 12) (w : World) : Calls Tryz.prog 68 #[.int .i64 (k : Int)] w fun e w' => e = .returned (.int .i64 (formN k : Int)) ∧ w = w' := by
  have hk : k = 0 ∨ k = 1 ∨ k = 2 ∨ k = 3 ∨ k = 4 ∨ k = 5 ∨ k = 6 ∨ k = 7 ∨ k = 8 ∨ k = 9 ∨ k = 10 ∨ k = 11 ∨ k = 12 := by omega
  rcases hk with rfl | rfl | rfl | rfl | rfl | rfl | rfl | rfl | rfl | rfl | rfl | rfl | rfl
  all_goals
    go_enter Tryz.func68, Tryz.ntmps68
    go_wp2
    go_returns
    exact ⟨rfl, rfl⟩
def wordVals : List Value := forms.map fun f => .string ⟨f.1.toArray⟩
set_option maxRecDepth 100000 in
theorem words_ref (w : World) : Calls Tryz.prog 90 #[] w fun e w' => e = .returned (.slice (some ⟨w.heap.size, 0, none⟩) 13 13) ∧ w' = w.alloc (.cells wordVals.toArray 9) := by
  go_enter Tryz.func90, Tryz.ntmps90
  go_wp2
  go_returns
  exact ⟨rfl, rfl⟩
theorem take_snocB (s : ByteArray) (k : Nat) (h : k < s.size) : s.data.toList.drop k = s[k] :: s.data.toList.drop (k + 1) := by
  rw [List.drop_eq_getElem_cons (by simpa using h)]; rfl
/-- A number, or none. -/
def NumRes (s : Bytes) (e : Ending) : Prop := match num s with
  | some n => e = .returned (.tuple #[.int .i64 (n : Int), .bool true])
  | none => ∃ v : Int, e = .returned (.tuple #[.int .i64 v, .bool false])
theorem num_bad {s : Bytes} (h : digs 0 s = none) : num s = none := by
  unfold num
  cases s with
  | nil => rfl
  | cons c r => simp only [h]
theorem digs_le : ∀ (s : Bytes) (m n : Nat), m ≤ maxWord * 10 + 9 → digs m s = some n → n ≤ maxWord * 10 + 9
  | [], m, n, h, e => by simp only [digs, Option.some.injEq] at e; omega
  | c :: s, m, n, h, e => by
    simp only [digs] at e
    split at e
    · exact digs_le s _ n (by have := c.toNat_lt; omega) e
    · cases e
set_option maxHeartbeats 1000000 in
theorem number_ref (s : ByteArray) (hs : s.size ≤ 1000000) (w : World) : Calls Tryz.prog 69 #[.string s] w fun e w' => NumRes s.data.toList e ∧ w = w' := by
  go_enter Tryz.func69, Tryz.ntmps69
  go_wp2
  go_loop [4, 5] (fun n i => ∃ k m : Nat, k ≤ s.size ∧ m ≤ 10995116277759 ∧ i = .int .i64 k ∧ n = .int .i64 m ∧ Hid (digs 0 s.data.toList = digs m (s.data.toList.drop k))) (fun _ i => s.size - (intOf i).toNat)
  case atStart => exact ⟨0, 0, by omega, by omega, rfl, rfl, by show _ = _; simp⟩
  case round =>
    obtain ⟨k, m, hk, hm, rfl, rfl, HD⟩ := hrel
    by_cases hlt : k < s.size
    · have hd := HD.out
      rw [take_snocB s k hlt] at hd
      simp only [digs] at hd
      have hb := s[k].toNat_lt
      by_cases hc : 48 ≤ s[k].toNat ∧ s[k].toNat ≤ 57 ∧ m ≤ maxWord
      · rw [if_pos hc] at hd
        have HE := Lib.hid hd
        obtain ⟨h1, h2, h3⟩ := hc
        unfold maxWord at h3
        have t1 : decide ((s[k].toNat : Int) < 48) = false := by simp; omega
        have t2 : decide (57 < (s[k].toNat : Int)) = false := by simp; omega
        have t3 : decide (1099511627775 < (m : Int)) = false := by simp; omega
        have q1 : (s[k].toNat : Int) - 48 = ((s[k].toNat - 48 : Nat) : Int) := by omega
        clear hd HD
        go_wp2
        go_round
        case rel => exact ⟨k + 1, m * 10 + (s[k].toNat - 48), by omega, by omega, by go_num, by first | go_num | (congr 1; omega), HE.out⟩
        case measure => simp [intOf]; omega
      · rw [if_neg hc] at hd
        have HN : Hid (num s.data.toList = none) := num_bad hd
        clear hd HD
        have hc' : decide ((s[k].toNat : Int) < 48) = true ∨ (decide ((s[k].toNat : Int) < 48) = false ∧ decide (57 < (s[k].toNat : Int)) = true) ∨ (decide ((s[k].toNat : Int) < 48) = false ∧ decide (57 < (s[k].toNat : Int)) = false ∧ decide (1099511627775 < (m : Int)) = true) := by
          unfold maxWord at hc; simp; omega
        clear hc
        rcases hc' with t1 | ⟨t1, t2⟩ | ⟨t1, t2, t3⟩
        all_goals
          go_wp2
          go_returns
          exact ⟨by unfold NumRes; rw [HN.out]; exact ⟨0, rfl⟩, rfl⟩
    · obtain rfl : k = s.size := by omega
      have hd := HD.out
      rw [List.drop_of_length_le (by simp)] at hd
      simp only [digs] at hd
      have HN : Hid (num s.data.toList = match s.data.toList with | [] => none | c :: r => if m ≤ maxWord ∧ (c ≠ 48 ∨ r = []) then some m else none) := by
        show _ = _
        unfold num
        cases hl : s.data.toList with
        | nil => rfl
        | cons c r => rw [hl] at hd; simp only [hd]
      clear hd HD
      by_cases hz : s.size = 0
      · have HZ : Hid (num s.data.toList = none) := by
          show _ = _
          rw [HN.out]
          have : s.data.toList = [] := List.eq_nil_of_length_eq_zero (by simpa using hz)
          rw [this]
        obtain ⟨b, t1⟩ : ∃ b, decide ((m : Int) ≤ 1099511627775) = b := ⟨_, rfl⟩
        cases b
        all_goals
          have t2 : decide (0 < (s.size : Int)) = false := decide_eq_false (by omega)
          have t3 : decide (0 < s.size) = false := decide_eq_false (by omega)
          clear hz HN
          go_wp2
          go_returns
          exact ⟨by unfold NumRes; rw [HZ.out]; exact ⟨_, rfl⟩, rfl⟩
      · obtain ⟨c, r, hl⟩ : ∃ c r, s.data.toList = c :: r := by
          cases hl : s.data.toList with
          | nil => exfalso; apply hz; have := congrArg List.length hl; simpa using this
          | cons c r => exact ⟨c, r, rfl⟩
        have h0 : 0 < s.size := by omega
        have hc0 : s[0]'h0 = c := by
          have : s.data.toList[0]? = some c := by rw [hl]; rfl
          have h2 : s.data.toList[0]? = some (s[0]'h0) := by rw [List.getElem?_eq_getElem (by simpa using h0)]; rfl
          rw [this] at h2; exact (Option.some.inj h2).symm
        have hr1 : (r = []) ↔ s.size = 1 := by
          have := congrArg List.length hl
          simp at this
          constructor
          · rintro rfl; simpa using this
          · intro h; exact List.eq_nil_of_length_eq_zero (by omega)
        have HM : Hid (num s.data.toList = if m ≤ maxWord ∧ (c ≠ 48 ∨ r = []) then some m else none) := by show _ = _; rw [HN.out, hl]
        clear HN hl
        have hcc : (((s[0]'h0).toNat : Int) != 48) = decide (c ≠ 48) := by
          rw [hc0]
          by_cases h : c = 48
          · subst h; rfl
          · have : c.toNat ≠ 48 := fun e => h (UInt8.toNat_inj.1 (by rw [e]; rfl))
            simp [h]; omega
        clear hc0
        have t2 : decide (0 < (s.size : Int)) = true := by simp; omega
        have t3 : decide (0 < s.size) = true := by simp; omega
        by_cases h1 : m ≤ 1099511627775
        · have t1 : decide ((m : Int) ≤ 1099511627775) = true := by simp; omega
          by_cases h48 : c = 48
          · have hcc' : (((s[0]'h0).toNat : Int) != 48) = false := by rw [hcc]; simp [h48]
            clear hcc
            by_cases hs1 : s.size = 1
            · have HR : Hid (num s.data.toList = some m) := by show _ = _; rw [HM.out, if_pos ⟨h1, .inr (hr1.2 hs1)⟩]
              have t4 : ((s.size : Int) == 1) = true := by simp; omega
              have t5 : (s.size == 1) = true := by simp; omega
              clear HM hr1 hs1 h48
              go_wp2
              go_returns
              exact ⟨by simp only [NumRes, HR.out]; rfl, rfl⟩
            · have HR : Hid (num s.data.toList = none) := by show _ = _; rw [HM.out, if_neg (by rintro ⟨_, h | h⟩; exact h h48; exact hs1 (hr1.1 h))]
              have t4 : ((s.size : Int) == 1) = false := by simp; omega
              have t5 : (s.size == 1) = false := by simp; omega
              clear HM hr1 hs1 h48
              go_wp2
              go_returns
              exact ⟨by unfold NumRes; rw [HR.out]; exact ⟨_, rfl⟩, rfl⟩
          · have hcc' : (((s[0]'h0).toNat : Int) != 48) = true := by rw [hcc]; simp [h48]
            have HR : Hid (num s.data.toList = some m) := by show _ = _; rw [HM.out, if_pos ⟨h1, .inl h48⟩]
            clear hcc HM hr1 h48
            go_wp2
            go_returns
            exact ⟨by simp only [NumRes, HR.out]; rfl, rfl⟩
        · have t1 : decide ((m : Int) ≤ 1099511627775) = false := by simp; omega
          have HR : Hid (num s.data.toList = none) := by show _ = _; rw [HM.out, if_neg (by rintro ⟨h, _⟩; exact h1 h)]
          clear hcc HM hr1
          go_wp2
          go_returns
          exact ⟨by unfold NumRes; rw [HR.out]; exact ⟨_, rfl⟩, rfl⟩
end Go.Proofs.YtialgdnkkjmpbaaGreatDoor
