/-
  The walk of RightRow
-/
import Derived.Test.YtbpnnhdhpahbjaaDoorWn
namespace Go.Proofs.YtbpnnhdhpahbjaaDoor
open Go.RowKit Go.Sort

set_option maxRecDepth 100000 in
theorem rightRow1_any (v : V) (hv : v.Wf) (w : World) : Calls Tryd.prog 48 #[v.val] w fun e w' => e = .returned (.bool (!v.right)) ∧ Below w.heap.size w w' := by
  have HC := Lib.hid (fun w => right_any v hv w)
  unfold V.val
  go_enter Tryd.func48, Tryd.ntmps48
  go_wp2_with fail
  refine (HC.out _).mono ?_
  rintro e w1 ⟨rfl, hb1⟩
  have HB1 := Lib.hid hb1
  clear hb1
  go_wp2_with fail
  go_returns
  refine ⟨ret_bool (by simp), ?_⟩
  go_grown
  exact Below.trans (by go_grown) (HB1.out.mono (by simp))

set_option maxRecDepth 100000 in
theorem indexFuncR_any (b off : Nat) (l : List V) (cap : Nat) (w : World) (hr : RowAt w b off l) (hl : l.length ≤ 1000000) (hw : ∀ v ∈ l, v.Wf) :
    Calls Tryd.prog 69 #[.slice (some ⟨b, off, none⟩) l.length cap, .func (.func 48) #[] #[]] w fun e w' => e = .returned (.int .i64 (idxOf (fun v => !v.right) l)) ∧ Below w.heap.size w w' := by
  have Hf := Lib.hid rightRow1_any
  have HW := Lib.hid hw
  have hen : ∀ args w, (callFunc 48 args).run Tryd.prog w = .ok (.enter 48 args) w := fun args w => by go_simp
  clear hw
  have HR := Lib.hid hr
  clear hr
  go_enter Tryd.func69, Tryd.ntmps69
  go_wp2_with fail
  go_loopw [8] (fun i wr => ∃ k : Nat, k ≤ l.length ∧ i = .int .i64 k ∧ (l.take k).findIdx? (fun v => !v.right) = none ∧ Below w.heap.size w wr) (fun i _ => l.length - (intOf i).toNat)
  case atStart => exact ⟨0, by omega, rfl, by simp, Below.refl _ _⟩
  case round =>
    obtain ⟨k, hk, rfl, hnone, hb⟩ := hrel
    have HN := Lib.hid hnone
    have HB := Lib.hid hb
    clear hnone hb
    by_cases hlt : k < l.length
    · obtain ⟨v, hv⟩ : ∃ v, l[k]? = some v := ⟨l[k], by simp [hlt]⟩
      have hc := (HR.out.kept HB.out) k v hv
      obtain ⟨c0, c1, c2⟩ := hc
      have HV := Lib.hid hv
      clear hv
      go_wp2_with fail
      refine (Hf.out v (HW.out v (List.mem_of_getElem? HV.out)) _).mono ?_
      rintro e w1 ⟨rfl, hb1⟩
      have HB1 := Lib.hid hb1
      clear hb1
      cases hp : v.right
      · go_wp2_with fail
        go_returns
        exact ⟨ret_int (by rw [idxOf_some HN.out HV.out (by simp [hp])]), HB.out.trans (HB1.out.mono HB.out.size)⟩
      · go_wp2_with fail
        go_roundw
        case rel => exact ⟨k + 1, by omega, by go_num, by
          rw [List.take_add_one, List.findIdx?_append, HN.out, HV.out]; simp [hp], HB.out.trans (HB1.out.mono HB.out.size)⟩
        case measure => simp [intOf]; omega
    · obtain rfl : k = l.length := by omega
      go_wp2_with fail
      go_returns
      exact ⟨ret_int (by rw [idxOf_none (by have := HN.out; rwa [List.take_length] at this)]), HB.out⟩

theorem containsFuncR_any (b off : Nat) (l : List V) (cap : Nat) (w : World) (hr : RowAt w b off l) (hl : l.length ≤ 1000000) (hw : ∀ v ∈ l, v.Wf) :
    Calls Tryd.prog 47 #[.slice (some ⟨b, off, none⟩) l.length cap, .func (.func 48) #[] #[]] w fun e w' => e = .returned (.bool (l.any (fun v => !v.right))) ∧ Below w.heap.size w w' := by
  rw [← idxOf_nonneg]
  go_enter Tryd.func47, Tryd.ntmps47
  go_wp2_with fail
  refine (indexFuncR_any b off l cap _ hr hl hw).mono ?_
  rintro e w' ⟨rfl, hb⟩
  go_wp2_with fail
  go_returns
  exact ⟨rfl, hb⟩

theorem rightRow_any (b off : Nat) (l : List V) (cap : Nat) (w : World) (hr : RowAt w b off l) (hl : l.length ≤ 1000000) (hw : ∀ v ∈ l, v.Wf) :
    Calls Tryd.prog 20 #[.slice (some ⟨b, off, none⟩) l.length cap] w fun e w' => e = .returned (.bool (l.all V.right)) ∧ Below w.heap.size w w' := by
  go_enter Tryd.func20, Tryd.ntmps20
  go_wp2_with fail
  refine (containsFuncR_any b off l cap _ hr hl hw).mono ?_
  rintro e w' ⟨rfl, hb⟩
  go_wp2_with fail
  go_returns
  exact ⟨ret_bool (by simp [List.all_eq_not_any_not]), hb⟩
end Go.Proofs.YtbpnnhdhpahbjaaDoor
