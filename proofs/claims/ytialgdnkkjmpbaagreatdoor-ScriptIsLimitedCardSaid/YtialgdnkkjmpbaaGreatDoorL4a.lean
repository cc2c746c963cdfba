/-
  Byte slices that are filled with one byte, and their strings; what the walk of the law ScriptIsLimited asks of them. No condition beside those that each theorem names.
-/
import Derived.Test.YtialgdnkkjmpbaaGreatDoorWk
import Derived.Test.YtialgdnkkjmpbaaGreatDoorPlainQ
import Derived.Laws.BytesString
import Derived.Laws.OwnMore
namespace Go.Proofs.YtialgdnkkjmpbaaGreatDoor
open Go.RowKit Go.Sort

/-- k bytes '#', then zeros: 199976 in all. -/
def hashed (k : Nat) : Array Value := (List.replicate k (Value.int .u8 35) ++ List.replicate (199976 - k) (Value.int .u8 0)).toArray
theorem hashed_size (k : Nat) (h : k ≤ 199976) : (hashed k).size = 199976 := by simp [hashed]; omega
theorem hashed_at (k : Nat) (h : k < 199976) : (hashed k)[k]? = some (.int .u8 0) := by
  unfold hashed
  rw [List.getElem?_toArray, List.getElem?_append_right (by simp), List.length_replicate, Nat.sub_self, List.getElem?_replicate, if_pos (by omega)]
theorem hashed_get (k j : Nat) (h : j < k) : (hashed k)[j]? = some (.int .u8 35) := by
  unfold hashed
  rw [List.getElem?_toArray, List.getElem?_append_left (by rw [List.length_replicate]; exact h), List.getElem?_replicate, if_pos h]
theorem hashed_set (k : Nat) (h : k < 199976) : (hashed k).setIfInBounds k (.int .u8 35) = hashed (k + 1) := by
  unfold hashed
  rw [List.setIfInBounds_toArray]
  congr 1
  rw [List.set_append_right _ _ (by simp), List.length_replicate, Nat.sub_self]
  obtain ⟨q, hq⟩ : ∃ q, 199976 - k = q + 1 := ⟨199975 - k, by omega⟩
  rw [hq, List.replicate_succ, List.set_cons_zero, List.replicate_succ', List.append_assoc, show 199976 - (k + 1) = q by omega]
  rfl
theorem info5 : (Tryz.prog.info? 5).map (fun i => (i.zero, i.size, i.bytes)) = some (some (.int .u8 0), 1, 1) := by kernel_rfl
theorem made_bytes (n : Nat) : madeCells (Value.int IntKind.u8 0).cells (n * 1) = (List.replicate n (Value.int .u8 0)).toArray := by
  apply Array.toList_inj.1
  rw [Nat.mul_one]
  exact toList_madeCells_one _ n
theorem make_hashed (w : World) : (Instr.makeSlice 37 (.int .i64 199976) (.int .i64 199976)).run Tryz.prog w = .ok (.slice (some ⟨w.heap.size, 0, none⟩) 199976 199976) (w.alloc (.cells (hashed 0) 5)) := by
  obtain ⟨i, hi, hz0, hz1, hz2⟩ := info_parts info5
  have := run_make (P := Tryz.prog) w 37 5 i _ Tryz.underlying37 hi hz0 .i64 .i64 (199976 : Int) (199976 : Int) (by omega) (by omega) (by rw [hz2]; omega) (by omega)
  rw [hz1] at this
  rw [this]
  rw [show madeCells (Value.int IntKind.u8 0).cells ((199976 : Int).toNat * 1) = hashed 0 from made_bytes 199976]
  rfl
def hashes (n : Nat) : Bytes := List.replicate n 35
theorem fold_push : ∀ (n : Nat) (s : Bytes), (List.replicate n (35 : Int)).foldl (fun (r : ByteArray) m => r.push (UInt8.ofNat m.toNat)) ⟨s.toArray⟩ = ⟨(s ++ hashes n).toArray⟩
  | 0, s => by simp [hashes]
  | n + 1, s => by
    rw [List.replicate_succ, List.foldl_cons]
    have := fold_push n (s ++ [35])
    have e : (⟨s.toArray⟩ : ByteArray).push (UInt8.ofNat (35 : Int).toNat) = ⟨(s ++ [35]).toArray⟩ := by simp [ByteArray.push]
    rw [e, this]
    simp [hashes, List.replicate_succ]
theorem conv_hashed (w : World) (b n cap : Nat) (hb : w.heap[b]? = some (.cells (hashed 199976) 5 (0, 0))) (hn : n ≤ 199976) :
    (convert 37 9 (.slice (some ⟨b, 0, none⟩) n cap)).run Tryz.prog w = .ok (.string ⟨(hashes n).toArray⟩) w := by
  rw [run_convert_bytes_string w 37 9 5 _ _ _ Tryz.underlying37 Tryz.underlying5 Tryz.underlying9]
  have h : (loadCells (⟨b, 0, none⟩ : Addr) n).run Tryz.prog w = .ok ((List.replicate n (35 : Int)).map (Value.int .u8)).toArray w := by
    have hl := run_loadCells_list (P := Tryz.prog) w ⟨b, 0, none⟩ ((List.replicate n (35 : Int)).map (Value.int .u8)) (fun j v hv => by
      rw [addr_add_mk, Nat.zero_add]
      simp only [World.cell?, hb]
      rw [List.getElem?_map, List.getElem?_replicate] at hv
      split at hv
      · rename_i hj
        simp only [Option.map_some, Option.some.injEq] at hv
        subst hv
        exact hashed_get 199976 j (by omega)
      · cases hv)
    simpa using hl
  rw [run_bytesToString w _ _ _ _ h]
  have := fold_push n []
  simp only [List.nil_append] at this
  rw [← this]
  rfl
/-- The long text, with j newlines more than fit. -/
def longT (j : Nat) : Bytes := headText ++ (hashes 199976 ++ List.replicate (j + 1) 10)
theorem longT_more (j : Nat) : longT j ++ [10] = longT (j + 1) := by
  unfold longT
  rw [List.append_assoc, List.append_assoc, ← List.replicate_succ']
theorem hashes_len (n : Nat) : (hashes n).length = n := List.length_replicate
theorem longT_len (j : Nat) : (longT j).length = 200000 + j := by
  unfold longT
  rw [List.length_append, List.length_append, hashes_len, List.length_replicate, show headText.length = 23 from rfl]
  omega
theorem parse_long (j : Nat) (h : 1 ≤ j) : parse (longT j) = (Sc.zero, 0, 2) := by
  unfold parse
  rw [if_pos (by rw [longT_len]; omega)]
  rfl
theorem parse_short (n : Nat) (h : n ≤ 199976) : parse (headText ++ (hashes n ++ [10])) = (headSc, 0, 0) := parse_hashes n h
end Go.Proofs.YtialgdnkkjmpbaaGreatDoor
