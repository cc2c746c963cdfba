/-
  From a row's list of variables to the table of powers of ten that strconv.Itoa reads. Condition: the list holds the table.
-/
import Derived.Test.YtbpnnhdhpahbjaaDoorBase
import Derived.Lib.LaidTab
import Derived.LaidSub
import Derived.Lib.ItoaNum
namespace Go.Proofs.YtbpnnhdhpahbjaaDoor
theorem tab_of {l : List (String × DataW Unit)} {W : World} (h : laidMetH Tryd.prog l W) (hf : l.filter (fun x => x.1 == "internal/strconv.uint64pow10") = [("internal/strconv.uint64pow10", Lib.tabData .u64 Lib.pow10Tab)]) :
    Lib.TabIs Tryd.prog W "internal/strconv.uint64pow10" .u64 Lib.pow10Tab := by
  have h1 := laidMetH.filter (fun x => x.1 == "internal/strconv.uint64pow10") h
  rw [hf] at h1
  have h2 : laidMet Tryd.prog [("internal/strconv.uint64pow10", Lib.tabData .u64 Lib.pow10Tab)] W := by
    unfold laidMetH at h1
    exact h1
  exact Lib.tabIs_of_head (g := 3) (t := 122) (e := 82) (n := 20) (by kernel_rfl) (by kernel_rfl) (by kernel_rfl) (by kernel_rfl) (by kernel_rfl) (by kernel_rfl) h2
end Go.Proofs.YtbpnnhdhpahbjaaDoor
