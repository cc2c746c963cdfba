/-
  Walks: strings.Builder: copyCheck and WriteString, as they stand in this program. Conditions: a builder that the caller has made itself.
-/
import Derived.Test.YtialgdnkkjmpbaaGreatDoorWc
import Derived.Shelf.Strings.BuilderK
import Derived.Shelf.Strings.BuilderF
namespace Go.Proofs.YtialgdnkkjmpbaaGreatDoor
open Go.RowKit Go.Sort

theorem bld_size : (Tryz.prog.info? 70).map (·.size) = some 2 := by kernel_rfl
theorem bld_lies : liesAt Tryz.prog Tryz.prog.depth 70 (2 / Tryz.prog.cellsOf 70) 0 70 1 = true := by kernel_rfl
theorem info5 : (Tryz.prog.info? 5).map (fun i => (i.zero, i.size, i.bytes)) = some (some (.int .u8 0), 1, 1) := by kernel_rfl
set_option maxRecDepth 100000 in
theorem check_used (b : Nat) (w : World) (h0 : w.cell? ⟨b, 0, none⟩ = some (.pointer (some ⟨b, 0, none⟩))) :
    Calls Tryz.prog 53 #[.pointer (some ⟨b, 0, none⟩)] w fun e w' => e = .returned (.tuple #[]) ∧ w' = w := by
  obtain ⟨j, hj, _⟩ := Option.map_eq_some_iff.1 bld_size
  go_enter Tryz.func53, Tryz.ntmps53
  go_wp2
  rw [Lib.run_neq_ptr_same w _ Tryz.underlying68 hj]
  go_wp2
  go_end0
  exact ⟨rfl, rfl⟩
set_option maxRecDepth 100000 in
theorem check_fresh (b : Nat) (w : World) (h0 : w.cell? ⟨b, 0, none⟩ = some (.pointer none)) (hsh : w.shape? b = some (70, 2)) (hfz : w.frozen? ⟨b, 0, none⟩ = false) :
    Calls Tryz.prog 53 #[.pointer (some ⟨b, 0, none⟩)] w fun e w' => e = .returned (.tuple #[]) ∧ w' = w.setCell ⟨b, 0, none⟩ (.pointer (some ⟨b, 0, none⟩)) := by
  obtain ⟨j, hj, hjs⟩ := Option.map_eq_some_iff.1 bld_size
  go_enter Tryz.func53, Tryz.ntmps53
  go_wp2
  rw [Lib.run_to_unsafe w ⟨b, 0, none⟩ Tryz.underlying68 Tryz.underlying142 hj (by rw [hjs]; decide) hsh (Nat.zero_lt_succ 1)]
  simp only [Result.andThen]
  rw [Oper.upon_value]
  go_wp2
  rw [run_callFunc_extern Tryz.func72 (by kernel_rfl) (by kernel_rfl) (by kernel_rfl) (e := Extern.AbiNoEscape.same) (by kernel_rfl)]
  rw [Lib.run_noEscape]
  simp only [Result.andThen]
  rw [Oper.upon_value]
  go_wp2
  rw [Lib.run_from_unsafe w ⟨b, 0, none⟩ Tryz.underlying142 Tryz.underlying68 hj hsh bld_lies]
  simp only [Result.andThen]
  rw [Oper.upon_value]
  go_wp2
  go_end0
  exact ⟨rfl, rfl⟩
theorem check_any (B b : Nat) (bs : List Value) (w : World) (h : Lib.IsBuilderF 70 5 B b bs w) :
    Calls Tryz.prog 53 #[.pointer (some ⟨b, 0, none⟩)] w fun e w' => e = .returned (.tuple #[]) ∧ Lib.BuilderAtF 70 5 B b (.pointer (some ⟨b, 0, none⟩)) bs w' ∧ Below B w w' ∧ Lib.OthersKept 5 (some b) w w' := by
  rcases h with h | h
  · refine (check_fresh b w h.cell0 h.shape h.frozen0).mono ?_
    rintro e w' ⟨rfl, rfl⟩
    exact ⟨rfl, h.used _, (Below.refl B w).setCell (p := ⟨b, 0, none⟩) h.1 _, (Lib.OthersKept.refl _ _ w).setCell ⟨b, 0, none⟩ rfl _⟩
  · refine (check_used b w h.cell0).mono ?_
    rintro e w' ⟨rfl, rfl⟩
    exact ⟨rfl, h, Below.refl B _, Lib.OthersKept.refl _ _ _⟩
/-- The builder holds these bytes. -/
def Bld (B b : Nat) (l : Bytes) (w : World) : Prop := Lib.IsBuilderF 70 5 B b (Lib.byteCells l) w
set_option maxHeartbeats 2000000 in
set_option maxRecDepth 100000 in
theorem write_any (B b : Nat) (l s : Bytes) (w : World) (h : Bld B b l w) (hlen : l.length + s.length ≤ 1000000000) (hBw : B ≤ w.heap.size) :
    Calls Tryz.prog 26 #[.pointer (some ⟨b, 0, none⟩), .string ⟨s.toArray⟩] w fun e w' => e = .returned (.tuple #[.int .i64 s.length, .nilIface]) ∧ Bld B b (l ++ s) w' ∧ Below B w w' ∧ Lib.OthersKept 5 (some b) w w' := by
  obtain ⟨i0, hi, hz0, hz1, hz2⟩ := info_parts info5
  have hcl : (Lib.byteCells l).length = l.length := by simp [Lib.byteCells]
  have hss : (⟨s.toArray⟩ : ByteArray).size = s.length := by show s.toArray.size = _; simp
  have C := Lib.hid (check_any B b (Lib.byteCells l) w h)
  have HCL := Lib.hid hcl
  have HSS := Lib.hid hss
  clear hcl hss
  go_enter Tryz.func26, Tryz.ntmps26
  go_wp2_with fail
  refine Calls.mono C.out ?_
  rintro e w1 ⟨rfl, h1, hb1, hk1⟩
  obtain ⟨hB, v, hbk, hown, hne⟩ := h1
  have c0 : w1.cell? ⟨b, 0, none⟩ = some (.pointer (some ⟨b, 0, none⟩)) := by rw [Lib.cell_of_heap hbk]; rfl
  have c1 : w1.cell? ⟨b, 1, none⟩ = some v := by rw [Lib.cell_of_heap hbk]; rfl
  have hsz := hb1.size
  have HBK := Lib.hid hbk
  have HOWN := Lib.hid hown
  have HNE := Lib.hid hne
  have HB1 := Lib.hid hb1
  have HK1 := Lib.hid hk1
  clear hbk hown hne hb1 hk1
  go_wp2_with (at_builtin; refine Lib.wpList_append_own_stringF _ rfl _ _ 37 9 rfl B 5 i0 Tryz.underlying37 Tryz.underlying9 hi hz0 hz1 hz2 _ _ _ rfl HOWN.out ⟨s.toArray⟩ rfl ?c3 ?c4 ?c5 ?_)
  case c3 => rw [HCL.out, HSS.out]; unfold maxLen; omega
  case c4 => rw [HCL.out, HSS.out]; omega
  case c5 => omega
  intro v' w2 hown' hgrow _
  have hlt : b < w1.heap.size := (Array.getElem?_eq_some_iff.1 HBK.out).1
  have hb2 : w2.heap[b]? = some (.cells #[.pointer (some ⟨b, 0, none⟩), v] 70 (0, 0)) := by
    rw [hgrow.block b hlt (fun e => HNE.out e.symm)]
    exact HBK.out
  have d0 : w2.cell? ⟨b, 0, none⟩ = some (.pointer (some ⟨b, 0, none⟩)) := by rw [Lib.cell_of_heap hb2]; rfl
  have d1 : w2.cell? ⟨b, 1, none⟩ = some v := by rw [Lib.cell_of_heap hb2]; rfl
  have f1 : w2.frozen? ⟨b, 1, none⟩ = false := Lib.frozen_of_heap hb2 1
  obtain ⟨ao, n', cap, rfl⟩ : ∃ ao n' cap, v' = .slice ao n' cap := by
    rcases hown'.2 with ⟨hv, _⟩ | ⟨g, cap, cur, fz, hv, _⟩
    · exact ⟨_, _, _, hv⟩
    · exact ⟨_, _, _, hv⟩
  have HO' := Lib.hid hown'
  have HG := Lib.hid hgrow
  have HB2 := Lib.hid hb2
  clear hown' hgrow hb2
  go_wp2
  go_ret2
  refine ⟨rfl, ?_, ?_, (HK1.out.grown HG.out (Lib.ownsRowF_kind HOWN.out)).setCell ⟨b, 1, none⟩ rfl _⟩
  · have hcc : Lib.byteCells (l ++ s) = Lib.byteCells l ++ Lib.strCells ⟨s.toArray⟩ := by simp [Lib.byteCells, Lib.strCells]
    unfold Bld
    rw [hcc]
    exact .inr (Lib.BuilderAtF.put (T := 70) (e := 5) hB HB2.out (bs' := Lib.byteCells l ++ Lib.strCells ⟨s.toArray⟩) (by rw [List.length_append, Lib.strCells_length, HSS.out]; exact HO'.out) (by decide))
  · exact (HB1.out.grown HG.out (by omega) (fun k hk => (HOWN.out.lt k hk).1)).setCell (p := ⟨b, 1, none⟩) hB _
theorem Lib.OthersKept.turn {B b : Nat} {w w' : World} (hb : Below B w w') (hk : Lib.OthersKept 5 (some b) w w') : Turn (fun k => B ≤ k ∧ (k = b ∨ (∃ c fz, w.heap[k]? = some (.cells c 5 fz)))) w w' := by
  refine ⟨hb.os, hb.tape, hb.output, hb.size, fun k hk1 hn => ?_⟩
  by_cases h : k < B
  · exact hb.block k h
  · have hne : k ≠ b := fun e => hn ⟨by omega, .inl e⟩
    have hx : ∃ o, w.heap[k]? = some o := ⟨_, Array.getElem?_eq_getElem hk1⟩
    obtain ⟨o, ho⟩ := hx
    rw [ho]
    exact hk k o ho (fun e => hne (Option.some.inj e)) (fun c fz e => hn ⟨by omega, .inr ⟨c, fz, by rw [ho, e]⟩⟩)
/-- What was there, and the call's own blocks that hold no bytes, are as they were. -/
theorem St.wrote {w0 w w' : World} {L : List Blk} {B b : Nat} (h : St w0 w L) (hb : Below B w w') (hk : Lib.OthersKept 5 (some b) w w') (hB : w0.heap.size ≤ B) (hL : ∀ x ∈ L, x.1 ≠ b ∧ x.2.2 ≠ 5) : St w0 w' L := by
  refine ⟨h.below.trans (hb.mono hB), fun x hx => ⟨(h.own x hx).1, ?_⟩, h.apart⟩
  exact hk _ _ (h.own x hx).2 (fun e => (hL x hx).1 (Option.some.inj e)) (fun c fz e => (hL x hx).2 (by simp only [Obj.cells.injEq] at e; exact e.2.1))
theorem Bld.kept {B b : Nat} {l : Bytes} {w w' : World} (h : Bld B b l w) (hb : Below w.heap.size w w') : Bld B b l w' := by
  have key : ∀ p, Lib.BuilderAtF 70 5 B b p (Lib.byteCells l) w → Lib.BuilderAtF 70 5 B b p (Lib.byteCells l) w' := by
    rintro p ⟨hB, v, h1, h2, h3⟩
    refine ⟨hB, v, hb.blk_kept h1, ?_, h3⟩
    obtain ⟨hl, hn | ⟨g, cap, cur, fz, hv, hbg, hg, rest⟩⟩ := h2
    · exact ⟨hl, .inl hn⟩
    · exact ⟨hl, .inr ⟨g, cap, cur, fz, hv, hbg, hb.blk_kept hg, rest⟩⟩
  exact h.elim (fun x => .inl (key _ x)) (fun x => .inr (key _ x))
theorem Bld.lt {B b : Nat} {l : Bytes} {w : World} (h : Bld B b l w) : b < w.heap.size := h.elim (fun x => x.lt) (fun x => x.lt)
theorem Bld.fresh (w : World) : Bld w.heap.size w.heap.size [] (w.alloc (.cells #[.pointer none, .slice none 0 0] 70)) := Lib.IsBuilderF.of (Lib.fresh_isBuilder 70 5 w)

theorem cat_eq (a b : Bytes) : (⟨a.toArray⟩ : ByteArray) ++ ⟨b.toArray⟩ = ⟨(a ++ b).toArray⟩ := by
  rw [ByteArray.mk_append_mk]
/-- A word and numbers go to the builder. -/
def LineRes (B b : Nat) (l : Bytes) (w : World) (e : Ending) (w' : World) : Prop := e = .returned (.tuple #[]) ∧ Bld B b l w' ∧ Below B w w' ∧ Lib.OthersKept 5 (some b) w w'
set_option maxRecDepth 100000 in
set_option maxHeartbeats 2000000 in
theorem line_any (B b : Nat) (l s : Bytes) (v : Value) (ns : List Int) (w : World) (he : Env w) (h : Bld B b l w) (hBw : B ≤ w.heap.size) (hB : 13 ≤ B) (hv : SlIn (fun k => k ≠ b ∧ ∀ c fz, w.heap[k]? ≠ some (.cells c 5 fz)) w v ns.length (zvals ns)) (hn : ∀ n ∈ ns, isW n = true)
    (hlen : (l ++ s ++ pNums ns).length ≤ 1000000000) :
    Calls Tryz.prog 25 #[.string ⟨s.toArray⟩, v, .pointer (some ⟨b, 0, none⟩)] w (LineRes B b (l ++ s ++ pNums ns) w) := by
  obtain ⟨a, cap, rfl, hcap, hcells⟩ := hv
  have HC := Lib.hid hcells
  have HE := Lib.hid he
  have HN := Lib.hid hn
  have C0 := Lib.hid (write_any B b l s w h (by simp at hlen; omega) hBw)
  have hlen2 : l.length + s.length + (pNums ns).length ≤ 1000000000 := by simpa [Nat.add_assoc] using hlen
  have hnl : ns.length ≤ (pNums ns).length := by
    clear hcells HC hcap hn HN hlen hlen2
    induction ns with
    | nil => simp
    | cons n ns ih => simp only [pNums, List.flatMap_cons, List.length_append, List.length_cons] at ih ⊢; omega
  clear hcells he hn hlen
  go_enter Tryz.func25, Tryz.ntmps25
  go_wp2_with fail
  refine Calls.mono C0.out ?_
  rintro e w1 ⟨rfl, h1, hb1, hk1⟩
  have H1 := Lib.hid h1
  have HB1 := Lib.hid hb1
  have HK1 := Lib.hid hk1
  clear h1 hb1 hk1
  go_wp2_with fail
  go_loopw [6, 11] (fun _ i wr => ∃ k : Nat, k ≤ ns.length ∧ i = .int .i64 k ∧ Hid (Bld B b (l ++ s ++ pNums (ns.take k)) wr) ∧ Hid (Below B w wr) ∧ Hid (Lib.OthersKept 5 (some b) w wr)) (fun _ i _ => ns.length - (intOf i).toNat)
  case atStart => exact ⟨0, by omega, rfl, by show Bld _ _ _ _; simpa [pNums] using H1.out, HB1.out, HK1.out⟩
  case round =>
    obtain ⟨k, hk, rfl, HL, HB, HK⟩ := hrel
    by_cases hlt : k < ns.length
    · obtain ⟨b1, o1, rfl, hq, hat⟩ := HC.out (by omega)
      obtain ⟨n, hn⟩ : ∃ n, ns[k]? = some n := ⟨ns[k], by simp [hlt]⟩
      have x1 : wr.cell? ⟨b1, o1 + k, none⟩ = some (.int .i64 n) := by
        have hc := hat k (.int .i64 n) (by simp [zvals, hn])
        have hlt1 := block_lt_of_cell hc
        rw [World.cell?_of_block (a := ⟨b1, o1 + k, none⟩) ((Lib.OthersKept.turn HB.out HK.out).block b1 hlt1 ?_)]
        · exact hc
        · rintro ⟨_, e | ⟨c, fz, e⟩⟩
          · exact hq.1 e
          · exact hq.2 c fz e
      have hW := HN.out n (List.mem_of_getElem? hn)
      have hWb : -9223372036854775808 ≤ n ∧ n ≤ 9223372036854775807 := by simp [isW] at hW; omega
      have HNN := Lib.hid hn
      have hsz : B ≤ wr.heap.size := Nat.le_trans hBw HB.out.size
      have hE2 : Env wr := HE.out.turned (Lib.OthersKept.turn HB.out HK.out) (fun i hi => by have := hi.1; omega)
      have HE2 := Lib.hid hE2
      have hlk : (l ++ s ++ pNums (ns.take k)).length + (32 :: Lib.itoa n).length ≤ 1000000000 := by
        have e1 : pNums (ns.take (k + 1)) = pNums (ns.take k) ++ (32 :: Lib.itoa n) := by
          rw [List.take_add_one, HNN.out]; simp [pNums]
        have e2 : (pNums ns) = pNums (ns.take (k + 1)) ++ pNums (ns.drop (k + 1)) := by
          unfold pNums; rw [← List.flatMap_append, List.take_append_drop]
        have e3 := congrArg List.length e2
        rw [e1] at e3
        simp only [List.length_append] at e3 ⊢
        omega
      have HLK := Lib.hid hlk
      have hil : 1 + (Lib.itoa n).length ≤ 1000000000 := by simp at hlk; omega
      have HST : Hid (l ++ s ++ pNums (ns.take (k + 1)) = (l ++ s ++ pNums (ns.take k)) ++ 32 :: Lib.itoa n) := by
        show _ = _
        rw [List.take_add_one, HNN.out]; simp [pNums]
      clear hn hat hW hE2 hlk
      go_wp2_with fail
      refine Calls.mono (itoa_any n hWb.1 hWb.2 _ HE2.out) ?_
      rintro e w2 ⟨rfl, hb2⟩
      have HL2 := Lib.hid (HL.out.kept hb2)
      have HB2 : Hid (Below B w w2) := HB.out.trans (hb2.mono hsz)
      have HK2 : Hid (Lib.OthersKept 5 (some b) w w2) := fun i o hi h1 h2 => by
        have := HK.out i o hi h1 h2
        rw [hb2.block i (Array.getElem?_eq_some_iff.1 this).1]; exact this
      have hsz2 : B ≤ w2.heap.size := Nat.le_trans hBw HB2.out.size
      clear hb2
      have C2 := Lib.hid (write_any B b _ (32 :: Lib.itoa n) w2 HL2.out HLK.out hsz2)
      have e32 := cat_eq [32] (Lib.itoa n)
      simp only [List.cons_append, List.nil_append] at e32
      go_wp2_with fail
      refine Calls.mono C2.out ?_
      rintro e w3 ⟨rfl, hl3, hb3, hk3⟩
      have HL3 : Hid (Bld B b (l ++ s ++ pNums (ns.take (k + 1))) w3) := by show Bld _ _ _ _; rw [HST.out]; exact hl3
      have HB3 := Lib.hid (HB2.out.trans hb3)
      have HK3 := Lib.hid (HK2.out.trans hk3)
      clear hl3 hb3 hk3 e32
      go_wp2_with fail
      go_roundw
      case rel => exact ⟨k + 1, by omega, by go_num, HL3.out, HB3.out, HK3.out⟩
      case measure => simp [intOf]; omega
    · obtain rfl : k = ns.length := by omega
      have HL2 : Hid (Bld B b (l ++ s ++ pNums ns) wr) := by have := HL.out; rwa [List.take_length] at this
      go_wp2_with fail
      refine bodyPost_end (results_none rfl _ _ _) rfl ?_
      exact ⟨rfl, HL2.out, HB.out, HK.out⟩
end Go.Proofs.YtialgdnkkjmpbaaGreatDoor
