/-
  Walks: the reference's reading of a line of a client. Of what was there only the state's block turns.
-/
import Derived.Test.YtialgdnkkjmpbaaGreatDoorR2
import Derived.Test.YtialgdnkkjmpbaaGreatDoorWh
import Derived.Laws.OwnMore
import Derived.Laws.AppendOwnNone
namespace Go
open Go.Sort Go.RowKit
/-- append of a slice that is nil or has an address, onto a row of the call's own; the slice may be empty. -/
theorem wpList_append_any {P : Program} {ops : Array Oper} {rest : List Oper} {o : Oper} {a : Act} {Q : Exit → Act → World → Prop} {W : World} (hgd : o.guard = none) (s x : Operand) (t : TypeId)
    (ho : o.op = .call { callee := .builtin .append, args := #[s, x], argTypes := #[t, t] })
    (e : TypeId) (z : Value) (size bytes : Nat) (ht : P.underlying t = some (.slice e)) (hinfo : (P.info? e).map (fun i => (i.zero, i.size, i.bytes)) = some (some z, size, bytes)) (hzs : z.cells.size = size) (hsz : 0 < size)
    (base : Nat) (v : Value) (n : Nat) (xs : List Value) (hs : a.eval s = v) (hown : W.ownsRow base e size v n xs)
    (xv : Value) (m : Nat) (news : List Value) (hx : a.eval x = xv) (hnm : Go.Proofs.YtialgdnkkjmpbaaGreatDoor.Norm xv) (hsl : SlAt W xv m news) (hl : news.length = m * size) (h1 : ∀ u ∈ news, u.oneCell' = true)
    (hbytes : (n + m) * bytes ≤ 140737488355328) (h63 : n + m ≤ maxLen) (hbase : base ≤ W.heap.size)
    (h : ∀ v' w', w'.ownsRow base e size v' (n + m) (xs ++ news) → W.grownBy w' v.ownBlock → wpList P ops Q rest (a.put o.dst v') w') : wpList P ops Q (o :: rest) a W := by
  obtain ⟨i0, hi, hz0, hz1, hz2⟩ := info_parts hinfo
  obtain ⟨ad, cap, rfl, hcap, hcells⟩ := hsl
  rcases hnm with ⟨ad', n', cap', e1⟩ | e1
  · simp only [Value.slice.injEq] at e1
    obtain ⟨rfl, rfl, rfl⟩ := e1
    refine wpList_append_own _ hgd s x t ho base e i0 z size bytes ht hi hz0 hz1 hz2 hzs hsz v n xs hs hown ad' m cap news hx hl (fun j u hu => ?_) h1 h63 hbytes hbase (fun v' w' h2 h3 _ => h v' w' h2 h3)
    have hm : 0 < m := by
      rcases Nat.eq_zero_or_pos m with h0 | h0
      · subst h0
        have : news = [] := List.eq_nil_of_length_eq_zero (by simpa using hl)
        rw [this] at hu; cases hu
      · exact h0
    obtain ⟨b, o', e2, hat⟩ := hcells hm
    simp only [Option.some.injEq] at e2
    subst e2
    rw [addr_add_mk]; exact hat j u hu
  · simp only [Value.slice.injEq] at e1
    obtain ⟨rfl, rfl, rfl⟩ := e1
    have hn0 : news = [] := List.eq_nil_of_length_eq_zero (by simpa using hl)
    subst hn0
    refine wpList_append_own_none hgd s x t ho base e i0 size ht hi v n xs hs hown hx ?_
    have := h v W (by simpa using hown) ⟨rfl, rfl, rfl, Nat.le_refl _, fun _ _ _ => rfl⟩
    exact this
theorem ownsRow_empty (w : World) (e : TypeId) (k : Nat) : (w.alloc (.cells #[] e)).ownsRow w.heap.size e k (.slice (some ⟨w.heap.size, 0, none⟩) 0 0) 0 [] :=
  ⟨by simp, .inr ⟨_, 0, #[], rfl, Nat.le_refl _, blk_new _ _, by omega, by unfold maxLen; omega, by simp, by simp⟩⟩
end Go
namespace Go.Proofs.YtialgdnkkjmpbaaGreatDoor
open Go.RowKit Go.Sort

theorem clVals_one : ∀ (cs : List Cl) (ls : List Value), (∀ v ∈ ls, v.oneCell' = true) → ∀ u ∈ clVals cs ls, u.oneCell' = true
  | [], _, _, u, h => by simp [clVals] at h
  | _ :: _, [], _, u, h => by simp [clVals] at h
  | c :: cs, v :: ls, hv, u, h => by
    simp only [clVals, List.mem_cons] at h
    rcases h with rfl | rfl | h
    · rfl
    · exact hv u (by simp)
    · exact clVals_one cs ls (fun x hx => hv x (by simp [hx])) u h
theorem svals_one (l : List Bytes) : ∀ u ∈ svals l, u.oneCell' = true := by
  intro u hu
  obtain ⟨s, _, rfl⟩ := List.mem_map.1 hu
  rfl
def textRes (s : Rd) (t : Bytes) : Except Int Rd := if (lastLines s.x.clients).length = 100 then .error eLimit else .ok { s with x := { s.x with clients := addLine s.x.clients t } }
set_option maxRecDepth 100000 in
set_option maxHeartbeats 2000000 in
theorem text_ref (sb : Nat) (w : World) (s : Rd) (t : Bytes) (hr : RefAt sb w s) (hcl : s.x.clients ≠ []) (hcm : s.x.clients.length ≤ 8) (hll : ∀ c ∈ s.x.clients, c.lines.length ≤ 100) :
    Calls Tryz.prog 44 #[.pointer (some ⟨sb, 0, none⟩), .string ⟨t.toArray⟩] w (RefRes sb w (textRes s t)) := by
  obtain ⟨cs, c, hcc⟩ := clients_last hcl
  have HF : Hid (textRes s t = if c.lines.length = 100 then .error eLimit else .ok { s with x := { s.x with clients := cs ++ [⟨c.tries, c.lines ++ [t]⟩] } }) := by
    show _ = _
    unfold textRes
    rw [hcc]
    simp only [lastLines, List.getLast?_append, List.getLast?_singleton, Option.some_or, Option.map_some, Option.getD_some, addLine_last]
  obtain ⟨cv, av, hblk, hsc⟩ := hr
  obtain ⟨hav, lvs, hlen, hcv, hlv⟩ := hsc
  rw [hcc, List.length_append] at hlen
  obtain ⟨ls, lv, rfl⟩ : ∃ ls lv, lvs = ls ++ [lv] := ⟨lvs.dropLast, lvs.getLast (fun e => by simp [e] at hlen), (List.dropLast_concat_getLast _).symm⟩
  have hls : ls.length = cs.length := by simp at hlen; exact hlen
  rw [hcc, clVals_snoc cs ls c lv hls] at hcv
  have hlast := hlv cs.length c lv (by rw [hcc]; simp) (by rw [← hls]; simp)
  obtain ⟨⟨al, cpl, rfl, hcpl, _⟩, _⟩ := id hlast
  have hlb : sb < w.heap.size := (Array.getElem?_eq_some_iff.1 hblk).1
  have S0 : Hid (StM (· = sb) w w [(sb, refCells s cv av, 62)]) := StM.one rfl hblk
  have F0 := S0.out.facts
  simp only [refCells, St.Facts, cellFacts, apartFacts, and_true] at F0
  have hl100 : c.lines.length ≤ 100 := hll c (by rw [hcc]; simp)
  have hcs8 : cs.length ≤ 7 := by rw [hcc] at hcm; simp at hcm; omega
  have hcvl : (cs ++ [c]).length = cs.length + 1 := by simp
  rw [hcvl] at hcv
  have HOC : Hid (∀ u ∈ clVals cs ls ++ [Value.int .i64 c.tries, .slice al c.lines.length cpl], u.oneCell' = true) := by
    show ∀ u ∈ _, _
    intro u hu
    rcases List.mem_append.1 hu with hu | hu
    · refine clVals_one cs ls (fun v hv => ?_) u hu
      obtain ⟨i, hi⟩ := List.mem_iff_getElem?.1 hv
      have hil := (List.getElem?_eq_some_iff.1 hi).1
      have := (hlv i (cs[i]'(by omega)) v (by rw [hcc, List.getElem?_append_left (by omega)]; simp) (by rw [List.getElem?_append_left hil]; exact hi)).1
      obtain ⟨a, cp, rfl, _⟩ := this
      rfl
    · simp at hu; rcases hu with rfl | rfl <;> rfl
  have HCV := Lib.hid hcv
  have HLV := Lib.hid hlast
  have HAV := Lib.hid hav
  have HLA := Lib.hid hlv
  have HLS := Lib.hid hls
  have HCC := Lib.hid hcc
  clear hcv hlast hav hlv hls hcc hblk hcl hcm hll hcvl hlen
  go_enter Tryz.func44, Tryz.ntmps44
  go_wp2_with (at_builtin; go_must (refine wpList_append_any rfl (.tmp 8) (.tmp 13) 25 rfl 48 (.agg #[.int .i64 0, .slice none 0 0]) 2 32 Tryz.underlying25 info48 rfl (by decide) w.heap.size (.slice (some ⟨w.heap.size, 0, none⟩) 0 0) 0 [] rfl (ownsRow_empty w 48 2) cv (cs.length + 1) (clVals cs ls ++ [.int .i64 c.tries, .slice al c.lines.length cpl]) rfl HCV.out.2 (HCV.out.1.slAt.kept ((Below.refl _ _).alloc (Nat.le_refl _) _)) ?_ ?_ (by omega) (by unfold maxLen; omega) (by simp) ?_))
  · rw [clVals_len cs ls HLS.out]; omega
  · simpa using HOC.out
  intro v1 w1 hown1 hg1
  obtain ⟨g1, c1, rfl⟩ : ∃ g1 c1, v1 = .slice (some ⟨g1, 0, none⟩) (cs.length + 1) c1 := by
    obtain ⟨_, ⟨_, h0⟩ | ⟨g, cp, cur, e, _⟩⟩ := hown1
    · omega
    · exact ⟨g, cp, e⟩
  have hg1b := World.ownsRow.lt hown1 g1 rfl
  have HB1 : Hid (Below w.heap.size w w1) := ((Below.refl w.heap.size w).alloc (Nat.le_refl _) (.cells #[] 48)).grown hg1 (by simp) (fun k hk => by simp [Value.ownBlock] at hk; omega)
  have S1 := Lib.hid (S0.out.kept HB1.out)
  have k1 : w1.cell? ⟨g1, cs.length * 2 + 1, none⟩ = some (.slice al c.lines.length cpl) := by
    rw [World.ownsRow.cellAt hown1 _ (by omega), List.getElem?_append_right (by rw [clVals_len cs ls HLS.out]; omega), clVals_len cs ls HLS.out]; simp [show cs.length * 2 + 1 - cs.length * 2 = 1 by omega]
  have HO1 := Lib.hid hown1
  clear hown1 hg1 F0
  by_cases h100 : c.lines.length = 100
  · rw [if_pos h100] at HF
    have t1 : ((c.lines.length : Int) == 100) = true := by simp; omega
    have t2 : (c.lines.length == 100) = true := by simp; omega
    clear h100
    go_wp2_with fail
    go_returns
    rw [HF.out]
    exact ⟨rfl, S1.out.turn⟩
  · rw [if_neg h100] at HF
    have t1 : ((c.lines.length : Int) == 100) = false := by simp; omega
    have t2 : (c.lines.length == 100) = false := by simp; omega
    clear h100
    have HLV1 := Lib.hid ((HLV.out.1.slAt.kept HB1.out).kept ((Below.refl _ _).alloc (Nat.le_refl _) (.cells #[] 9)))
    have HSL := Lib.hid (svals_len c.lines)
    go_wp2_with (at_builtin; go_must (refine wpList_append_any rfl (.tmp 25) (.tmp 30) 43 rfl 9 (.string ⟨#[]⟩) 1 16 Tryz.underlying43 info9 rfl (by decide) w1.heap.size (.slice (some ⟨w1.heap.size, 0, none⟩) 0 0) 0 [] rfl (ownsRow_empty w1 9 1) (.slice al c.lines.length cpl) c.lines.length (svals c.lines) rfl HLV.out.2 HLV1.out ?_ ?_ (by omega) (by unfold maxLen; omega) (by simp) ?_))
    · rw [HSL.out]; omega
    · exact svals_one c.lines
    intro v2 w2 hown2 hg2
    have HB2 : Hid (Below w1.heap.size w1 w2) := ((Below.refl w1.heap.size w1).alloc (Nat.le_refl _) (.cells #[] 9)).grown hg2 (by simp) (fun k hk => by simp [Value.ownBlock] at hk; omega)
    have S2 := Lib.hid (S1.out.kept HB2.out)
    have HO12 := Lib.hid (World.ownsRow.later HO1.out HB2.out)
    have HO2 := Lib.hid hown2
    obtain ⟨a2, c2, rfl, hc2, _⟩ := hown2.slAt
    have hsz12 : w1.heap.size ≤ w2.heap.size := HB2.out.size
    clear hown2 hg2 k1 HLV1
    go_wp2_with (at_builtin; go_must (refine wpList_append_new rfl (.tmp 34) (.tmp 36) 43 rfl 9 (.string ⟨#[]⟩) 16 Tryz.underlying43 info9 rfl w1.heap.size (.slice a2 c.lines.length c2) c.lines.length (svals c.lines) rfl HO2.out #[.string ⟨t.toArray⟩] w2.heap.size rfl rfl (by simp [Value.oneCell']) (by simp; omega) (by simp [maxLen]; omega) hsz12 ?_))
    intro v3 w3 hown3 hg3
    have HB3 : Hid (Below w1.heap.size w2 w3) := (Below.refl w1.heap.size w2).own HO2.out hg3 (Nat.le_refl _) hsz12
    have HO13 : Hid (w3.ownsRow w.heap.size 48 2 (.slice (some ⟨g1, 0, none⟩) (cs.length + 1) c1) (cs.length + 1) (clVals cs ls ++ [.int .i64 c.tries, .slice al c.lines.length cpl])) :=
      World.ownsRow.same HO12.out (fun g hg => by simp only [Value.ownBlock, Option.some.injEq] at hg; subst hg; exact HB3.out.block _ hg1b.2)
    have k1 : w3.cell? ⟨g1, cs.length * 2 + 1, none⟩ = some (.slice al c.lines.length cpl) := by
      rw [World.ownsRow.cellAt HO13.out _ (by omega), List.getElem?_append_right (by rw [clVals_len cs ls HLS.out]; omega), clVals_len cs ls HLS.out]; simp [show cs.length * 2 + 1 - cs.length * 2 = 1 by omega]
    have k2 : w3.frozen? ⟨g1, cs.length * 2 + 1, none⟩ = false := World.ownsRow.frozenAt HO13.out _
    have HO3 : Hid (w3.ownsRow w1.heap.size 9 1 v3 (c.lines ++ [t]).length (svals (c.lines ++ [t]))) := by
      show World.ownsRow _ _ _ _ _ _ _
      simpa [svals] using hown3
    obtain ⟨a3, c3, rfl, hc3, _⟩ := hown3.slAt
    have hszw := HB1.out.size
    have HT3 : Hid (Turn (fun k => w1.heap.size ≤ k) w2 w3) := ⟨HB3.out.os, HB3.out.tape, HB3.out.output, HB3.out.size, fun k hk hm => HB3.out.block k (by omega)⟩
    have S3 := Lib.hid (S2.out.turned HT3.out (fun i hi h => by omega) (fun x hx h => by simp at hx; subst hx; simp at h; omega))
    have F3 := S3.out.facts
    simp only [refCells, St.Facts, cellFacts, apartFacts, and_true] at F3
    clear hown3 hg3
    have hne : g1 ≠ sb := by omega
    have hne' : sb ≠ g1 := by omega
    go_wp2_with fail
    go_returns
    rw [HF.out]
    clear F3 k1 k2
    have S4 := S3.out.turned (N := (· = g1)) ((Turn.refl (· = g1) w3).setCell (b := g1) (o := cs.length * 2 + 1) (v := .slice a3 (c.lines.length + 1) c3) (.inl rfl)) (fun i hi h => by omega) (fun x hx h => by simp at hx; subst hx; simp at h; omega)
    have S5 := StM.set 0 (o := 7) (v := .slice (some ⟨g1, 0, none⟩) (cs.length + 1) c1) S4 rfl
    have hst := (World.ownsRow.stored HO13.out (cs.length * 2 + 1) (.slice a3 (c.lines.length + 1) c3)).1
    rw [List.set_append_right _ _ (by rw [clVals_len cs ls HLS.out]; omega), clVals_len cs ls HLS.out, show cs.length * 2 + 1 - cs.length * 2 = 1 by omega] at hst
    simp only [List.set_cons_succ, List.set_cons_zero] at hst
    have hst2 : ((w3.setCell ⟨g1, cs.length * 2 + 1, none⟩ (.slice a3 (c.lines.length + 1) c3)).setCell ⟨sb, 7, none⟩ (.slice (some ⟨g1, 0, none⟩) (cs.length + 1) c1)).ownsRow w.heap.size 48 2 (.slice (some ⟨g1, 0, none⟩) (cs.length + 1) c1) (cs.length + 1) (clVals cs ls ++ [.int .i64 c.tries, .slice a3 (c.lines.length + 1) c3]) :=
      World.ownsRow.same hst (fun g hg => by simp only [Value.ownBlock, Option.some.injEq] at hg; subst hg; exact Below.heap_setCell _ _ _ _ hne)
    have hl3 : ((w3.setCell ⟨g1, cs.length * 2 + 1, none⟩ (.slice a3 (c.lines.length + 1) c3)).setCell ⟨sb, 7, none⟩ (.slice (some ⟨g1, 0, none⟩) (cs.length + 1) c1)).ownsRow w1.heap.size 9 1 (.slice a3 (c.lines.length + 1) c3) (c.lines ++ [t]).length (svals (c.lines ++ [t])) :=
      World.ownsRow.same HO3.out (fun g hg => by
        have := (World.ownsRow.lt HO3.out g hg).1
        have e1 : g ≠ sb := by omega
        have e2 : g ≠ g1 := by omega
        rw [Below.heap_setCell _ _ _ _ e1, Below.heap_setCell _ _ _ _ e2])
    refine ⟨rfl, ⟨.slice (some ⟨g1, 0, none⟩) (cs.length + 1) c1, av, S5.blk 0 rfl, HAV.out.turned S5.turn (fun b hb e => by omega) acVals_ne, ls ++ [.slice a3 (c.lines.length + 1) c3], by simp [HLS.out], ?_, ?_⟩, S5.turn⟩
    · have := World.ownsRow.slN hst2 hlb
      rw [clVals_snoc cs ls _ _ HLS.out, List.length_append]
      exact this
    · intro i d lv hd hv
      rcases Nat.lt_or_ge i cs.length with hi | hi
      · simp only at hd
        rw [List.getElem?_append_left hi] at hd
        rw [List.getElem?_append_left (by rw [HLS.out]; exact hi)] at hv
        exact (HLA.out i d lv (by rw [HCC.out, List.getElem?_append_left hi]; exact hd) (by rw [List.getElem?_append_left (by rw [HLS.out]; exact hi)]; exact hv)).turned S5.turn (fun b hb e => by omega) svals_ne
      · simp only at hd
        rw [List.getElem?_append_right hi] at hd
        rw [List.getElem?_append_right (by rw [HLS.out]; exact hi), HLS.out] at hv
        have hi0 : i - cs.length = 0 := by
          have := (List.getElem?_eq_some_iff.1 hd).1
          simp at this; omega
        rw [hi0] at hd hv
        simp only [List.getElem?_cons_zero, Option.some.injEq] at hd hv
        subst hd hv
        exact World.ownsRow.slN hl3 (by omega)
end Go.Proofs.YtialgdnkkjmpbaaGreatDoor
