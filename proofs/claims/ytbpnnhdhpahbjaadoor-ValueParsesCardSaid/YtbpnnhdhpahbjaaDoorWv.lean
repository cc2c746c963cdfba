/-
  Walks: strconv's inner ParseUint at two bytes, base 16 and 8 bits. The memory that was there is as it was.
-/
import Derived.Test.YtbpnnhdhpahbjaaDoorL5
import Derived.Test.YtbpnnhdhpahbjaaDoorShelfB
import Derived.Lib.ConvBytes
import Derived.Lib.AtoiErrMem
namespace Go.Proofs.YtbpnnhdhpahbjaaDoor
open Go.RowKit Go.Sort

/-- The value of a hexadecimal digit, small or capital. -/
def hexVal (b : UInt8) : Option Nat :=
  if 48 ≤ b.toNat ∧ b.toNat ≤ 57 then some (b.toNat - 48) else if 97 ≤ b.toNat ∧ b.toNat ≤ 102 then some (b.toNat - 87) else if 65 ≤ b.toNat ∧ b.toNat ≤ 70 then some (b.toNat - 55) else none
def hexs : Nat → List UInt8 → Option Nat
  | acc, [] => some acc
  | acc, c :: l => match hexVal c with | some d => hexs (acc * 16 + d) l | none => none
set_option maxRecDepth 100000 in
theorem or32B : ((List.range 256).all fun c => (decide (65 ≤ c ∧ c ≤ 90 → c ||| 32 = c + 32)) && (decide (97 ≤ c ∧ c ≤ 122 → c ||| 32 = c)) && (decide (¬ (65 ≤ c ∧ c ≤ 90) → ¬ (97 ≤ c ∧ c ≤ 122) → ¬ (97 ≤ (c ||| 32) ∧ (c ||| 32) ≤ 122))) && decide ((c ||| 32) < 256)) = true := by decide +kernel
theorem or32 (c : Nat) (h : c < 256) : ((65 ≤ c ∧ c ≤ 90 → c ||| 32 = c + 32) ∧ (97 ≤ c ∧ c ≤ 122 → c ||| 32 = c) ∧ (¬ (65 ≤ c ∧ c ≤ 90) → ¬ (97 ≤ c ∧ c ≤ 122) → ¬ (97 ≤ (c ||| 32) ∧ (c ||| 32) ≤ 122))) ∧ (c ||| 32) < 256 := by
  have := List.all_eq_true.1 or32B c (by simpa using h)
  simp only [Bool.and_eq_true, decide_eq_true_eq] at this
  exact ⟨⟨this.1.1.1, this.1.1.2, this.1.2⟩, this.2⟩
theorem lower_val (c : Nat) (h : c < 256) : bits .or .u8 (c : Int) 32 = ((c ||| 32 : Nat) : Int) := by
  have := u8_or_nat c 32 h (by decide)
  exact this
/-- What ParseUint(s, 16, 8) hands back at two bytes. -/
def hexRes : Option Nat → Value
  | some n => .tuple #[.int .u64 n, .nilIface]
  | none => .tuple #[.int .u64 0, .iface 98 (.int .i64 2)]

set_option maxHeartbeats 8000000 in
set_option maxRecDepth 100000 in
theorem parseHex_in (t : ByteArray) (h2 : t.size = 2) (w : World) :
    Calls Tryd.prog 84 #[.string t, .int .i64 16, .int .i64 8] w fun e w' => e = .returned (hexRes (hexs 0 t.data.toList)) ∧ Below w.heap.size w w' := by
  have hemp : t.toList.isEmpty = false := by
    rw [← decide_eq_emptyBytes]
    exact decide_eq_false (fun h => by rw [h] at h2; cases h2)
  have hcv := Lib.run_convert_string_bytes (P := Tryd.prog) w 9 63 5 t (u := .string) Tryd.underlying9 Tryd.underlying63 Tryd.underlying5
  have hB : ∀ j, j < t.size → (Lib.bytesWorld w 5 t).cell? ⟨w.heap.size, j, none⟩ = some (.int .u8 (t.data.toList.getD j 0).toNat) := fun j hj => Lib.bytesWorld_cell w 5 t j hj
  have hbel := Lib.bytesWorld_below w 5 t
  obtain ⟨W1, hW1⟩ : ∃ W1, W1 = Lib.bytesWorld w 5 t := ⟨_, rfl⟩
  rw [← hW1] at hcv hB hbel
  clear hW1
  have HBel := Lib.hid hbel
  clear hbel
  obtain ⟨bs, hL⟩ : ∃ bs, bs = t.data.toList := ⟨_, rfl⟩
  have hLn : bs.length = t.size := by rw [hL, Lib.size_eq]
  rw [← hL] at hB ⊢
  clear hL
  have hmv : IntKind.u64.wrap (IntKind.u64.wrap 256 - 1) = 255 := by
    rw [IntKind.wrap_u64, IntKind.wrap_u64]
    decide
  have HN := Lib.hid hLn
  have HLow := Lib.hid Tryd.internal_strconv_lower
  go_enter Tryd.func84, Tryd.ntmps84
  go_wp2_with fail
  go_loop [12, 13, 101] (fun vu vn vi => ∃ (k acc : Nat) (a : Int), vu = .bool false ∧ vn = .int .u64 a ∧ vi = .int .i64 k ∧ k ≤ t.size ∧ Hid (a = (acc : Int) ∧ acc < 16 ^ k ∧ hexs 0 bs = hexs acc (bs.drop k))) (fun _ _ vi => t.size - (intOf vi).toNat)
  case atStart => exact ⟨0, 0, 0, rfl, rfl, rfl, by omega, rfl, by omega, rfl⟩
  case round =>
    obtain ⟨k, acc, a, rfl, rfl, rfl, hk, hh⟩ := hrel
    obtain ⟨ha, hacc, hdec⟩ := hh.out
    clear hh
    by_cases hkn : k < t.size
    · have hc := hB k hkn
      have hdrop : bs.drop k = bs[k]'(by omega) :: bs.drop (k + 1) := List.drop_eq_getElem_cons (by omega)
      have hget : bs.getD k 0 = bs[k]'(by omega) := by simp [List.getD, List.getElem?_eq_getElem (show k < bs.length by omega)]
      rw [hdrop] at hdec
      rw [hget] at hc
      generalize bs[k]'(by omega) = c at hc hdec
      have hc256 : c.toNat < 256 := c.toNat_lt
      have hk2 : k = 0 ∨ k = 1 := by omega
      have hacc16 : acc < 16 := by rcases hk2 with rfl | rfl <;> simp at hacc <;> omega
      have a0 : 0 ≤ a := by omega
      have a1 : a < 16 := by omega
      have hlow := lower_val c.toNat hc256
      have hor := or32 c.toNat hc256
      obtain ⟨y, hy⟩ : ∃ y, y = c.toNat ||| 32 := ⟨_, rfl⟩
      rw [← hy] at hlow hor
      clear hB hdrop hget hLn hy
      obtain ⟨⟨o1, o2, o3⟩, o4⟩ := hor
      cases hv : hexVal c with
      | none =>
        have HR : Hid (hexs 0 bs = none) := by show _ = _; rw [hdec]; simp [hexs, hv]
        have hno : ¬ (48 ≤ c.toNat ∧ c.toNat ≤ 57) ∧ ¬ (97 ≤ c.toNat ∧ c.toNat ≤ 102) ∧ ¬ (65 ≤ c.toNat ∧ c.toNat ≤ 70) := by
          unfold hexVal at hv
          repeat' split at hv
          all_goals first | (cases hv; done) | exact ⟨by assumption, by assumption, by assumption⟩
        obtain ⟨n1, n2, n3⟩ := hno
        have hyy : ¬ (97 ≤ y ∧ y ≤ 122) ∨ (107 ≤ y - 97 + 97 + 4 ∧ 103 ≤ y ∧ y ≤ 122) := by
          by_cases q1 : 65 ≤ c.toNat ∧ c.toNat ≤ 90
          · have := o1 q1; omega
          · by_cases q2 : 97 ≤ c.toNat ∧ c.toNat ≤ 122
            · have := o2 q2; omega
            · exact .inl (o3 q1 q2)
        have hcd : c.toNat < 48 ∨ 57 < c.toNat := by omega
        have hyc : y < 97 ∨ 122 < y ∨ (103 ≤ y ∧ y ≤ 122) := by omega
        clear o1 o2 o3 hdec hv n1 n2 n3 hacc ha hyy hk2 hacc16
        cases h95 : ((c.toNat : Int) == 95)
        all_goals
          rcases hcd with q | q <;> rcases hyc with r | r | ⟨r1, r2⟩
          all_goals
            go_wp2_with (first | (go_at_call 100; refine (HLow.out _ _).mono ?_; rintro e w' ⟨rfl, rfl⟩))
            go_ret2
            exact ⟨by rw [HR.out]; rfl, HBel.out⟩
      | some d =>
        have HD : Hid (hexs 0 bs = hexs (acc * 16 + d) (bs.drop (k + 1))) := by show _ = _; rw [hdec]; simp [hexs, hv]
        have hcl : (48 ≤ c.toNat ∧ c.toNat ≤ 57 ∧ d = c.toNat - 48) ∨ (¬ (48 ≤ c.toNat ∧ c.toNat ≤ 57) ∧ 97 ≤ y ∧ y ≤ 102 ∧ d = y - 87) := by
          unfold hexVal at hv
          repeat' split at hv
          · rename_i q; cases hv; omega
          · rename_i q; cases hv; have := o2 (by omega); omega
          · rename_i q; cases hv; have := o1 (by omega); omega
          · cases hv
        have hne95 : c.toNat ≠ 95 := fun e => by simp [hexVal, e] at hv
        have hd16 : d < 16 := by omega
        have hpow : acc * 16 + d < 16 ^ (k + 1) := by rcases hk2 with rfl | rfl <;> simp at hacc ⊢ <;> omega
        clear o1 o2 o3 hdec hv hacc hk2
        have h95 : ((c.toNat : Int) == 95) = false := by rw [beq_eq_false_iff_ne]; omega
        clear hne95
        rcases hcl with ⟨q1, q2, q3⟩ | ⟨q0, q1, q2, q3⟩
        · have HH : Hid (a * 16 + ((c.toNat : Int) - 48) = ((acc * 16 + d : Nat) : Int) ∧ acc * 16 + d < 16 ^ (k + 1) ∧ hexs 0 bs = hexs (acc * 16 + d) (bs.drop (k + 1))) := ⟨by omega, hpow, HD.out⟩
          have i1 : (48 : Int) ≤ (c.toNat : Int) := by omega
          have i2 : (c.toNat : Int) ≤ 57 := by omega
          clear ha hpow q3 hacc16 hd16 o4 hlow
          go_wp2_with fail
          go_round
          case rel => exact ⟨k + 1, acc * 16 + d, a * 16 + ((c.toNat : Int) - 48), rfl, (by first | rfl | (congr 1; omega)), (by first | rfl | go_num), by omega, HH⟩
          case measure => simp [intOf]; omega
        · have HH : Hid (a * 16 + ((y : Int) - 97 + 10) = ((acc * 16 + d : Nat) : Int) ∧ acc * 16 + d < 16 ^ (k + 1) ∧ hexs 0 bs = hexs (acc * 16 + d) (bs.drop (k + 1))) := ⟨by omega, hpow, HD.out⟩
          have i1 : (97 : Int) ≤ (y : Int) := by omega
          have i2 : (y : Int) ≤ 102 := by omega
          have hcd : c.toNat < 48 ∨ 57 < c.toNat := by omega
          clear ha hpow q3 hacc16 hd16 o4 q0
          rcases hcd with q | q
          all_goals
            go_wp2_with (first | (go_at_call 100; refine (HLow.out _ _).mono ?_; rintro e w' ⟨rfl, rfl⟩))
            go_round
            case rel => exact ⟨k + 1, acc * 16 + d, a * 16 + ((y : Int) - 97 + 10), rfl, (by first | rfl | (congr 1; omega)), (by first | rfl | go_num), by omega, HH⟩
            case measure => simp [intOf]; omega
    · have hkk : k = t.size := by omega
      subst hkk
      have HR : Hid (hexs 0 bs = some acc) := by show _ = _; rw [hdec, List.drop_eq_nil_of_le (by omega)]; rfl
      subst ha
      clear hacc hdec hB
      go_wp2_with fail
      go_ret2
      exact ⟨by rw [HR.out]; rfl, HBel.out⟩
end Go.Proofs.YtbpnnhdhpahbjaaDoor
