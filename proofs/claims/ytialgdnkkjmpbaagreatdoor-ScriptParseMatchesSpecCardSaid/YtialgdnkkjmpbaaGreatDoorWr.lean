/-
  Walks: the package sql at ASCII texts: isSpace, isLower, isDigit, isPart, prefix. Conditions: the variables of the program's text are there. The memory that was there is as it was.
-/
import Derived.Test.YtialgdnkkjmpbaaGreatDoorWn
import Derived.Lib.OthersKept
namespace Go.Proofs.YtialgdnkkjmpbaaGreatDoor
open Go.RowKit Go.Sort

def accS (c : UInt8) : Bool := c == 32 || c == 9 || c == 10
def lowB (c : UInt8) : Bool := decide (97 ≤ c.toNat) && decide (c.toNat ≤ 122)
def digB' (c : UInt8) : Bool := decide (48 ≤ c.toNat) && decide (c.toNat ≤ 57)
def accP (c : UInt8) : Bool := lowB c || digB' c || c == 95
theorem isSpace_any (c : UInt8) (w : World) : Calls Tryz.prog 96 #[.int .i32 (c.toNat : Int)] w fun e w' => e = .returned (.bool (accS c)) ∧ w = w' := by
  obtain ⟨b1, h1⟩ : ∃ b, ((c.toNat : Int) == 32) = b := ⟨_, rfl⟩
  obtain ⟨b2, h2⟩ : ∃ b, ((c.toNat : Int) == 9) = b := ⟨_, rfl⟩
  obtain ⟨b3, h3⟩ : ∃ b, ((c.toNat : Int) == 10) = b := ⟨_, rfl⟩
  have key : ∀ (n : Nat) (d : UInt8), d.toNat = n → ((c.toNat : Int) == (n : Int)) = (c == d) := fun n d hd => by
    rw [Bool.eq_iff_iff]; simp only [beq_iff_eq]
    constructor
    · intro h; exact UInt8.toNat_inj.1 (by omega)
    · intro h; subst h; omega
  have HR : Hid (accS c = (b1 || b2 || b3)) := by
    show _ = _
    unfold accS
    rw [← h1, ← h2, ← h3, ← key 32 32 rfl, ← key 9 9 rfl, ← key 10 10 rfl]; rfl
  clear key
  cases b1 <;> cases b2 <;> cases b3
  all_goals
    go_enter Tryz.func96, Tryz.ntmps96
    go_wp2
    go_returns
    exact ⟨ret_bool HR.out.symm, rfl⟩
theorem lower_tab : ((List.range 128).all fun c => Lib.isLowerL c == (decide (97 ≤ c) && decide (c ≤ 122))) = true := by decide +kernel
theorem isLower_any (c : UInt8) (hc : c.toNat < 128) (w : World) (he : Env w) : Calls Tryz.prog 154 #[.int .i32 (c.toNat : Int)] w fun e w' => e = .returned (.bool (lowB c)) ∧ w = w' := by
  have hL : Lib.isLowerL c.toNat = lowB c := by
    have := List.all_eq_true.1 lower_tab c.toNat (List.mem_range.2 hc)
    simpa [lowB] using this
  have C := Lib.hid (Tryz.unicode_IsLower_laid c.toNat w (by omega) he.props)
  rw [hL] at C
  have h1 : (c.toNat : Int) ≤ 127 := by omega
  clear he hL
  generalize lowB c = b at *
  cases b
  all_goals
    go_enter Tryz.func154, Tryz.ntmps154
    go_wp2_with fail
    refine Calls.mono C.out ?_
    rintro e w1 ⟨rfl, rfl⟩
    go_wp2_with fail
    go_returns
    exact ⟨rfl, rfl⟩
theorem isDigit_any (c : UInt8) (w : World) : Calls Tryz.prog 156 #[.int .i32 (c.toNat : Int)] w fun e w' => e = .returned (.bool (digB' c)) ∧ w = w' := by
  have HR : Hid (digB' c = (decide ((48 : Int) ≤ (c.toNat : Int)) && decide ((c.toNat : Int) ≤ 57))) := by
    show _ = _
    unfold digB'
    congr 1
    · rw [decide_eq_decide]; omega
    · rw [decide_eq_decide]; omega
  obtain ⟨b1, h1⟩ : ∃ b, decide ((48 : Int) ≤ (c.toNat : Int)) = b := ⟨_, rfl⟩
  obtain ⟨b2, h2⟩ : ∃ b, decide ((c.toNat : Int) ≤ 57) = b := ⟨_, rfl⟩
  rw [h1, h2] at HR
  cases b1 <;> cases b2
  all_goals
    go_enter Tryz.func156, Tryz.ntmps156
    go_wp2
    go_returns
    exact ⟨ret_bool HR.out.symm, rfl⟩
theorem isPart_any (c : UInt8) (hc : c.toNat < 128) (w : World) (he : Env w) : Calls Tryz.prog 155 #[.int .i32 (c.toNat : Int)] w fun e w' => e = .returned (.bool (accP c)) ∧ w = w' := by
  have C1 := Lib.hid (isLower_any c hc w he)
  have C2 := Lib.hid (isDigit_any c w)
  obtain ⟨b3, h3⟩ : ∃ b, ((c.toNat : Int) == 95) = b := ⟨_, rfl⟩
  have HR : Hid (accP c = (lowB c || digB' c || b3)) := by
    show _ = _
    unfold accP
    rw [← h3]
    congr 1
    rw [Bool.eq_iff_iff]; simp only [beq_iff_eq]
    constructor
    · intro h; subst h; rfl
    · intro h; exact UInt8.toNat_inj.1 (by have e95 : (95 : UInt8).toNat = 95 := rfl; omega)
  clear he
  generalize lowB c = b1 at *
  generalize digB' c = b2 at *
  cases b1 <;> cases b2 <;> cases b3
  all_goals
    go_enter Tryz.func155, Tryz.ntmps155
    go_wp2_with fail
    refine Calls.mono C1.out ?_
    rintro e w1 ⟨rfl, rfl⟩
    go_wp2_with fail
    try
      refine Calls.mono C2.out ?_
      rintro e w1 ⟨rfl, rfl⟩
      go_wp2_with fail
    go_returns
    exact ⟨ret_bool HR.out.symm, rfl⟩
/-- How far an iterator has come. -/
def iterPos (k : Nat) (w : World) : Nat := match w.heap[k]? with
  | some (.stringIter _ p) => p
  | _ => 0
theorem iterPos_of {k : Nat} {w : World} {u : ByteArray} {p : Nat} (h : w.heap[k]? = some (.stringIter u p)) : iterPos k w = p := by unfold iterPos; rw [h]
theorem below_iter {w wr : World} {u : ByteArray} {_pos : Nat} (HB : Below w.heap.size w wr) (pos' : Nat) : Below w.heap.size w (wr.iterAt w.heap.size u pos') := by
  refine HB.trans ⟨rfl, rfl, rfl, by simp [World.iterAt], fun k hk => ?_⟩
  simp only [World.iterAt]
  rw [Array.getElem?_setIfInBounds_ne (by omega)]
theorem takeWhile_self {acc : UInt8 → Bool} : ∀ {l : Bytes}, (∀ d ∈ l, acc d = true) → l.takeWhile acc = l
  | [], _ => rfl
  | a :: l, h => by rw [List.takeWhile_cons_of_pos (h a (by simp)), takeWhile_self (fun d hd => h d (by simp [hd]))]
theorem takeWhile_snoc {acc : UInt8 → Bool} {l : Bytes} {k : Nat} {c : UInt8} (hk : l[k]? = some c) (h : ∀ d ∈ l.take k, acc d = true) (hc : acc c = false) : l.takeWhile acc = l.take k := by
  obtain ⟨hlt, rfl⟩ := List.getElem?_eq_some_iff.1 hk
  have e : l = l.take k ++ l.drop k := (List.take_append_drop k l).symm
  rw [List.drop_eq_getElem_cons hlt] at e
  conv => lhs; rw [e]
  rw [List.takeWhile_append_of_pos h, List.takeWhile_cons_of_neg (by simp [hc])]
  simp
set_option maxRecDepth 100000 in
set_option maxHeartbeats 2000000 in
theorem prefix_any (u : Bytes) (hu : u.length ≤ 1000000) (hasc : ∀ c ∈ u, c.toNat < 128) (g : Nat) (acc : UInt8 → Bool) (hfn : ∀ args w, (callFunc g args).run Tryz.prog w = .ok (.enter g args) w)
    (hg : ∀ (c : UInt8) (w : World), c.toNat < 128 → Env w → Calls Tryz.prog g #[.int .i32 (c.toNat : Int)] w fun e w' => e = .returned (.bool (acc c)) ∧ w = w') (w : World) (he : Env w) :
    Calls Tryz.prog 95 #[.string ⟨u.toArray⟩, .func (.func g) #[] #[]] w fun e w' => e = .returned (.string ⟨(u.takeWhile acc).toArray⟩) ∧ Below w.heap.size w w' := by
  have HG := Lib.hid hg
  have HE := Lib.hid he
  have HA := Lib.hid hasc
  have hsz : (⟨u.toArray⟩ : ByteArray).size = u.length := by show u.toArray.size = _; simp
  have HSZ := Lib.hid hsz
  clear hg he hasc hsz
  go_enter Tryz.func95, Tryz.ntmps95
  go_wp2_with fail
  go_loopw [5, 6] (fun _ _ wr => ∃ pos : Nat, pos ≤ u.length ∧ Hid (∀ d ∈ u.take pos, acc d = true) ∧ Hid (wr.heap[w.heap.size]? = some (.stringIter ⟨u.toArray⟩ pos)) ∧ Hid (Below w.heap.size w wr)) (fun _ _ wr => u.length - iterPos w.heap.size wr)
  case atStart => exact ⟨0, by omega, by simp [Lib.hid], World.iter_heap _ _ _, (Below.refl _ _).alloc (Nat.le_refl _) _⟩
  case round =>
    obtain ⟨pos, hpos, HT, HI, HB⟩ := hrel
    by_cases hlt : pos < u.length
    · have hlt' : pos < (⟨u.toArray⟩ : ByteArray).size := by rw [HSZ.out]; exact hlt
      obtain ⟨c, hc⟩ : ∃ c, u[pos]? = some c := ⟨u[pos], by simp [hlt]⟩
      have hcc : (⟨u.toArray⟩ : ByteArray)[pos]'hlt' = c := by
        have h2 := at_byte ⟨u.toArray⟩ pos hlt'
        simp only [] at h2
        rw [hc] at h2
        exact (Option.some.inj h2).symm
      have h128 : c.toNat < 128 := HA.out c (List.mem_of_getElem? hc)
      have hnx := fun ty => Lib.run_next_ascii_at (P := Tryz.prog) wr w.heap.size ⟨u.toArray⟩ pos ty HI.out hlt' (by rw [hcc]; exact h128)
      rw [hcc] at hnx
      have HI1 := Lib.hid (Lib.iterAt_heap _ _ _ _ (pos + 1) HI.out)
      have HB1 := Lib.hid (below_iter (u := ⟨u.toArray⟩) (_pos := pos) HB.out (pos + 1))
      have C := Lib.hid (HG.out c (wr.iterAt w.heap.size ⟨u.toArray⟩ (pos + 1)) h128 (HE.out.kept HB1.out))
      have HCP := Lib.hid hc
      clear hc hcc
      obtain ⟨b, hb⟩ : ∃ b, acc c = b := ⟨_, rfl⟩
      rw [hb] at C
      have HAB := Lib.hid hb
      clear hb
      go_wp2_with fail
      refine Calls.mono C.out ?_
      rintro e w1 ⟨rfl, rfl⟩
      clear hnx C
      cases b with
      | true =>
        go_wp2_with fail
        go_roundw
        case rel =>
          refine ⟨pos + 1, by omega, ?_, HI1.out, HB1.out⟩
          show ∀ d ∈ u.take (pos + 1), acc d = true
          rw [List.take_add_one, HCP.out]
          intro d hd
          rcases List.mem_append.1 hd with hd | hd
          · exact HT.out d hd
          · simp at hd; subst hd; exact HAB.out
        case measure => rw [iterPos_of HI1.out, iterPos_of HI.out]; omega
      | false =>
        have HW : Hid (u.takeWhile acc = u.take pos) := takeWhile_snoc HCP.out HT.out HAB.out
        have hext : (⟨u.toArray⟩ : ByteArray).extract 0 pos = ⟨(u.takeWhile acc).toArray⟩ := by
          rw [extract_list, HW.out]; simp
        go_wp2_with fail
        go_returns
        exact ⟨rfl, HB1.out⟩
    · obtain rfl : pos = u.length := by omega
      have HW : Hid (u.takeWhile acc = u) := by
        have := HT.out
        rw [List.take_length] at this
        exact takeWhile_self this
      have hnx := fun ty => Lib.run_next_end_at (P := Tryz.prog) wr w.heap.size ⟨u.toArray⟩ u.length ty HI.out (by rw [HSZ.out]; exact Nat.lt_irrefl _)
      go_wp2_with fail
      go_returns
      exact ⟨by rw [HW.out]; rfl, HB.out⟩
end Go.Proofs.YtialgdnkkjmpbaaGreatDoor
