/-
  From a row's list of variables to the two errors of strconv. Condition: the list holds them.
-/
import Derived.Test.YtbpnnhdhpahbjaaDoorTab
import Derived.Test.YtbpnnhdhpahbjaaDoorWw
import Derived.LaidLaws
import Derived.FnData
namespace Go.Proofs.YtbpnnhdhpahbjaaDoor
theorem err_cell {l : List (String × DataW Unit)} {W : World} (h : laidMetH Tryd.prog l W) (name ty : String) (d : DataW Unit) (g : Nat) (hg : Tryd.prog.globalNamed name = some g) (hty : (Tryd.prog.globals[g]?).map (·.type) = some 74)
    (hf : l.filter (fun x => x.1 == name) = [(name, .iface ty d)]) (hh : (DataW.iface ty d).handleName? = none) : ∃ t p, W.cell? ⟨g, 0, none⟩ = some (.iface t p) := by
  have h1 := laidMetH.filter (fun x => x.1 == name) h
  rw [hf] at h1
  have h2 : laidMet Tryd.prog [(name, .iface ty d)] W := by
    unfold laidMetH at h1
    simp only [List.filter_cons, hh, Option.isSome_none, Bool.false_eq_true, if_false, List.filter_nil] at h1
    exact h1
  obtain ⟨ps, ⟨g', t', cs, fuel, p, q, hg', ht', hvar, hd, _, _⟩, _⟩ := h2
  obtain rfl := Option.some.inj (hg.symm.trans hg')
  obtain rfl := Option.some.inj (hty.symm.trans ht')
  obtain ⟨_, u, v, hcs, _, _⟩ := iface_of_trod Tryd.underlying74 hd
  have := World.var?_cell hg hvar 0
  have hc : cs = #[.iface u v] := by cases cs; simp_all
  rw [hc] at this
  exact ⟨u, v, this⟩
theorem errs_of {l : List (String × DataW Unit)} {W : World} (h : laidMetH Tryd.prog l W) (h1 : l.filter (fun x => x.1 == "strconv.ErrSyntax") = [("strconv.ErrSyntax", Rows.laid_strconv_ErrSyntax)])
    (h2 : l.filter (fun x => x.1 == "strconv.ErrRange") = [("strconv.ErrRange", Rows.laid_strconv_ErrRange)]) : Errs W := by
  obtain ⟨t1, p1, c1⟩ := err_cell h "strconv.ErrSyntax" _ _ 1 (by kernel_rfl) (by kernel_rfl) h1 (by kernel_rfl)
  obtain ⟨t2, p2, c2⟩ := err_cell h "strconv.ErrRange" _ _ 2 (by kernel_rfl) (by kernel_rfl) h2 (by kernel_rfl)
  exact ⟨t1, p1, t2, p2, c1, c2⟩
end Go.Proofs.YtbpnnhdhpahbjaaDoor
