/-
  Walks over a slice of values: slices.IndexFunc, Index and what is called on them. For every slice of at most a million values; the memory that was there is as it was.
-/
import Derived.Test.YtbpnnhdhpahbjaaDoorWb
namespace Go.Proofs.YtbpnnhdhpahbjaaDoor
open Go.RowKit Go.Sort

/-- A slice's cells hold these values. -/
def RowAt (w : World) (b off : Nat) (l : List V) : Prop :=
  ∀ (i : Nat) (v : V), l[i]? = some v → w.cell? ⟨b, off + i * 3, none⟩ = some (.int .i64 v.k) ∧ w.cell? ⟨b, off + i * 3 + 1, none⟩ = some (.int .i64 v.n) ∧ w.cell? ⟨b, off + i * 3 + 2, none⟩ = some (.string v.s)
theorem RowAt.kept {w w' : World} {b off : Nat} {l : List V} (h : RowAt w b off l) (hb : Below w.heap.size w w') : RowAt w' b off l := fun i v hv => by
  obtain ⟨h1, h2, h3⟩ := h i v hv
  exact ⟨hb.cell_kept h1, hb.cell_kept h2, hb.cell_kept h3⟩

/-- A function value that answers p of every value. -/
structure Asks (f : FuncId) (p : V → Bool) : Prop where
  enters : ∀ args w, (callFunc f args).run Tryd.prog w = .ok (.enter f args) w
  says : ∀ (v : V) (w : World), Calls Tryd.prog f #[v.val] w fun e w' => e = .returned (.bool (p v)) ∧ Below w.heap.size w w'
/-- The first place whose value fits, or -1. -/
def idxOf (p : V → Bool) (l : List V) : Int := match l.findIdx? p with | some i => (i : Int) | none => -1
theorem idxOf_none {p : V → Bool} {l : List V} (h : l.findIdx? p = none) : idxOf p l = -1 := by unfold idxOf; rw [h]
theorem idxOf_some {p : V → Bool} {l : List V} {k : Nat} {v : V} (h : (l.take k).findIdx? p = none) (hv : l[k]? = some v) (hp : p v = true) : idxOf p l = k := by
  have hk : k < l.length := (List.getElem?_eq_some_iff.1 hv).1
  have e : l = l.take k ++ v :: l.drop (k + 1) := by
    obtain ⟨_, h2⟩ := List.getElem?_eq_some_iff.1 hv
    rw [← h2, List.getElem_cons_drop, List.take_append_drop]
  unfold idxOf
  rw [e, List.findIdx?_append, h]
  simp [hp, List.findIdx?_cons]
  omega
theorem idxOf_nonneg (p : V → Bool) (l : List V) : decide (0 ≤ idxOf p l) = l.any p := by
  unfold idxOf
  cases h : l.findIdx? p with
  | none =>
    have := List.findIdx?_eq_none_iff.1 h
    simp
    intro x hx
    simpa using this x hx
  | some i =>
    have := List.findIdx?_eq_some_iff_getElem.1 h
    obtain ⟨hi, hp, _⟩ := this
    have : l.any p = true := List.any_eq_true.2 ⟨l[i], List.getElem_mem hi, hp⟩
    simp [this]

set_option maxRecDepth 100000 in
theorem logical1_any : Asks 72 (fun v => !v.logical) := by
  refine ⟨fun args w => by go_simp, ?_⟩
  rintro ⟨k, n, s⟩ w
  unfold V.val V.logical
  go_enter Tryd.func72, Tryd.ntmps72
  go_wp2
  all_goals go_returns
  all_goals refine ⟨ret_bool ?_, by go_grown⟩
  all_goals (simp [*]; try grind)

set_option maxRecDepth 100000 in
theorem indexFunc_any (f : FuncId) (p : V → Bool) (hf : Asks f p) (b off : Nat) (l : List V) (cap : Nat) (w : World) (hr : RowAt w b off l) (hl : l.length ≤ 1000000) :
    Calls Tryd.prog 82 #[.slice (some ⟨b, off, none⟩) l.length cap, .func (.func f) #[] #[]] w fun e w' => e = .returned (.int .i64 (idxOf p l)) ∧ Below w.heap.size w w' := by
  have Hf := Lib.hid hf.says
  have hen := hf.enters
  clear hf
  have HR := Lib.hid hr
  clear hr
  go_enter Tryd.func82, Tryd.ntmps82
  go_wp2_with fail
  go_loopw [8] (fun i wr => ∃ k : Nat, k ≤ l.length ∧ i = .int .i64 k ∧ (l.take k).findIdx? p = none ∧ Below w.heap.size w wr) (fun i _ => l.length - (intOf i).toNat)
  case atStart => exact ⟨0, by omega, rfl, by simp, Below.refl _ _⟩
  case round =>
    obtain ⟨k, hk, rfl, hnone, hb⟩ := hrel
    have HN := Lib.hid hnone
    have HB := Lib.hid hb
    clear hnone hb
    by_cases hlt : k < l.length
    · obtain ⟨v, hv⟩ : ∃ v, l[k]? = some v := ⟨l[k], by simp [hlt]⟩
      have hc := (HR.out.kept HB.out) k v hv
      obtain ⟨c0, c1, c2⟩ := hc
      have HV := Lib.hid hv
      clear hv
      go_wp2_with fail
      refine (Hf.out v _).mono ?_
      rintro e w1 ⟨rfl, hb1⟩
      have HB1 := Lib.hid hb1
      clear hb1
      cases hp : p v
      · go_wp2_with fail
        go_roundw
        case rel => exact ⟨k + 1, by omega, by go_num, by
          rw [List.take_add_one, List.findIdx?_append, HN.out, HV.out]; simp [hp], HB.out.trans (HB1.out.mono HB.out.size)⟩
        case measure => simp [intOf]; omega
      · go_wp2_with fail
        go_returns
        exact ⟨ret_int (by rw [idxOf_some HN.out HV.out hp]), HB.out.trans (HB1.out.mono HB.out.size)⟩
    · obtain rfl : k = l.length := by omega
      go_wp2_with fail
      go_returns
      exact ⟨ret_int (by rw [idxOf_none (by have := HN.out; rwa [List.take_length] at this)]), HB.out⟩
end Go.Proofs.YtbpnnhdhpahbjaaDoor
