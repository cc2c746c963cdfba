/-
  Walks: isFormed of the package script. Conditions: the variables of the program's text are there. The memory that was there is as it was.
-/
import Derived.Test.YtialgdnkkjmpbaaGreatDoorWm
namespace Go.Proofs.YtialgdnkkjmpbaaGreatDoor
open Go.RowKit Go.Sort

theorem acVals_at {w : World} {b o : Nat} {l : List Ac} (h : CellsAt w b o (acVals l)) {k : Nat} {x : Ac} (hk : l[k]? = some x) :
    w.cell? ⟨b, o + k * 4, none⟩ = some (.int .i64 x.k) ∧ w.cell? ⟨b, o + k * 4 + 1, none⟩ = some (.int .i64 x.a) ∧ w.cell? ⟨b, o + k * 4 + 2, none⟩ = some (.int .i64 x.b) ∧ w.cell? ⟨b, o + k * 4 + 3, none⟩ = some (.int .i64 x.c) := by
  have key : ∀ (l : List Ac) (k : Nat) (x : Ac), l[k]? = some x → (acVals l)[k * 4]? = some (.int .i64 x.k) ∧ (acVals l)[k * 4 + 1]? = some (.int .i64 x.a) ∧ (acVals l)[k * 4 + 2]? = some (.int .i64 x.b) ∧ (acVals l)[k * 4 + 3]? = some (.int .i64 x.c) := by
    intro l
    induction l with
    | nil => intro k x h; cases h
    | cons g L ih =>
      intro k x h
      cases k with
      | zero => simp only [List.getElem?_cons_zero, Option.some.injEq] at h; subst h; simp [acVals]
      | succ k =>
        simp only [List.getElem?_cons_succ] at h
        have := ih k x h
        simp only [acVals, List.flatMap_cons, show (k + 1) * 4 = k * 4 + 4 by omega]
        simpa [acVals] using this
  obtain ⟨h0, h1, h2, h3⟩ := key l k x hk
  exact ⟨h _ _ h0, by rw [Nat.add_assoc]; exact h _ _ h1, by rw [Nat.add_assoc]; exact h _ _ h2, by rw [Nat.add_assoc]; exact h _ _ h3⟩
theorem clVals_at {w : World} {b o : Nat} {cs : List Cl} {lvs : List Value} (h : CellsAt w b o (clVals cs lvs)) {k : Nat} {c : Cl} {lv : Value} (hk : cs[k]? = some c) (hl : lvs[k]? = some lv) :
    w.cell? ⟨b, o + k * 2, none⟩ = some (.int .i64 c.tries) ∧ w.cell? ⟨b, o + k * 2 + 1, none⟩ = some lv := by
  have key : ∀ (cs : List Cl) (lvs : List Value) (k : Nat) (c : Cl) (lv : Value), cs[k]? = some c → lvs[k]? = some lv → (clVals cs lvs)[k * 2]? = some (.int .i64 c.tries) ∧ (clVals cs lvs)[k * 2 + 1]? = some lv := by
    intro cs
    induction cs with
    | nil => intro lvs k c lv h; cases h
    | cons g L ih =>
      intro lvs k c lv h h'
      cases lvs with
      | nil => cases h'
      | cons m M =>
        cases k with
        | zero => simp only [List.getElem?_cons_zero, Option.some.injEq] at h h'; subst h h'; simp [clVals]
        | succ k =>
          simp only [List.getElem?_cons_succ] at h h'
          have := ih M k c lv h h'
          simp only [clVals, show (k + 1) * 2 = k * 2 + 2 by omega]
          simpa using this
  obtain ⟨h0, h1⟩ := key cs lvs k c lv hk hl
  exact ⟨h _ _ h0, by rw [Nat.add_assoc]; exact h _ _ h1⟩

/-- A function that tells which acts are wrong. -/
def TellsBad (g : Nat) : Prop := (∀ args w, (callFunc g args).run Tryz.prog w = .ok (.enter g args) w) ∧ ∀ x w, Env w → Calls Tryz.prog g #[acVal x] w fun e w' => e = .returned (.bool (!x.right)) ∧ Below w.heap.size w w'
theorem tells52 : TellsBad 52 := by
  refine ⟨enters_of Tryz.func52 (by kernel_rfl) rfl, fun x w he => ?_⟩
  have C := Lib.hid (fun w he => isAct_any x w he)
  have HE := Lib.hid he
  have S0 : Hid (St w w []) := St.start w
  clear he
  generalize x.right = b at *
  unfold acVal at C ⊢
  cases b
  all_goals
    go_enter Tryz.func52, Tryz.ntmps52
    go_wp2_with fail
    refine Calls.mono (C.out _ (HE.out.kept ((Below.refl _ _).alloc (Nat.le_refl _) _))) ?_
    rintro e w1 ⟨rfl, hb1⟩
    refine St.call (St.alloc (S0.out)) hb1 ?_
    intro S1
    clear hb1
    try (simp only [List.set_cons_zero, List.set_cons_succ, List.setIfInBounds_toArray, World.size_alloc] at S1)
    go_wp2_with fail
    go_returns
    exact ⟨rfl, S1.out.below⟩
theorem tells35 : TellsBad 35 := by
  refine ⟨enters_of Tryz.func35 (by kernel_rfl) rfl, fun x w he => ?_⟩
  have C := Lib.hid (fun w he => isAct_any x w he)
  have HE := Lib.hid he
  have S0 : Hid (St w w []) := St.start w
  clear he
  generalize x.right = b at *
  unfold acVal at C ⊢
  cases b
  all_goals
    go_enter Tryz.func35, Tryz.ntmps35
    go_wp2_with fail
    refine Calls.mono (C.out _ (HE.out.kept ((Below.refl _ _).alloc (Nat.le_refl _) _))) ?_
    rintro e w1 ⟨rfl, hb1⟩
    refine St.call (St.alloc (S0.out)) hb1 ?_
    intro S1
    clear hb1
    try (simp only [List.set_cons_zero, List.set_cons_succ, List.setIfInBounds_toArray, World.size_alloc] at S1)
    go_wp2_with fail
    go_returns
    exact ⟨rfl, S1.out.below⟩
/-- Where the first wrong act is. -/
def badAt : Nat → List Ac → Int
  | _, [] => -1
  | k, a :: l => if a.right = true then badAt (k + 1) l else (k : Int)
theorem badAt_all : ∀ (l : List Ac) (k : Nat), (0 ≤ badAt k l) ↔ l.all Ac.right = false
  | [], k => by simp [badAt]
  | a :: l, k => by
    simp only [badAt, List.all_cons]
    by_cases h : a.right = true
    · rw [if_pos h, h, Bool.true_and]; exact badAt_all l (k + 1)
    · rw [if_neg h]; simp at h; simp [h]
set_option maxRecDepth 100000 in
set_option maxHeartbeats 1000000 in
theorem findAct_any (g : Nat) (hg : TellsBad g) (v : Value) (l : List Ac) (w : World) (he : Env w) (hv : SlAt w v l.length (acVals l)) (hl : l.length ≤ 1000000) :
    Calls Tryz.prog 34 #[v, .func (.func g) #[] #[]] w fun e w' => e = .returned (.int .i64 (badAt 0 l)) ∧ Below w.heap.size w w' := by
  obtain ⟨a, cap, rfl, hcap, hcells⟩ := hv
  have HC := Lib.hid hcells
  have HE := Lib.hid he
  obtain ⟨hfn, hC⟩ := hg
  have C := Lib.hid hC
  clear hcells he hC
  go_enter Tryz.func34, Tryz.ntmps34
  go_wp2_with fail
  go_loopw [5, 8] (fun _ i wr => ∃ k : Nat, k ≤ l.length ∧ i = .int .i64 k ∧ Hid (badAt 0 l = badAt k (l.drop k)) ∧ Hid (Below w.heap.size w wr)) (fun _ i _ => l.length - (intOf i).toNat)
  case atStart => exact ⟨0, by omega, rfl, rfl, Below.refl _ _⟩
  case round =>
    obtain ⟨k, hk, rfl, HK, HB⟩ := hrel
    by_cases hlt : k < l.length
    · obtain ⟨b, o, rfl, hat⟩ := HC.out (by omega)
      obtain ⟨x, hx⟩ : ∃ x, l[k]? = some x := ⟨l[k], by simp [hlt]⟩
      obtain ⟨x0, x1, x2, x3⟩ := acVals_at (hat.kept HB.out) hx
      have hst : badAt k (l.drop k) = if x.right = true then badAt (k + 1) (l.drop (k + 1)) else (k : Int) := by
        obtain ⟨h1, rfl⟩ := List.getElem?_eq_some_iff.1 hx
        rw [List.drop_eq_getElem_cons h1, badAt]
      have C1 := Lib.hid (C.out x wr (HE.out.kept HB.out))
      unfold acVal at C1
      have HST : Hid (badAt 0 l = _) := HK.out.trans hst
      clear hst HK hx hat
      generalize x.right = br at *
      cases br
      · have HR : Hid (badAt 0 l = (k : Int)) := HST.out
        clear HST
        go_wp2_with fail
        refine Calls.mono C1.out ?_
        rintro e w1 ⟨rfl, hb1⟩
        have HB1 := Lib.hid (HB.out.step hb1)
        clear hb1 x0 x1 x2 x3
        go_wp2_with fail
        go_returns
        exact ⟨by rw [HR.out]; rfl, HB1.out⟩
      · have HR : Hid (badAt 0 l = badAt (k + 1) (l.drop (k + 1))) := HST.out
        clear HST
        go_wp2_with fail
        refine Calls.mono C1.out ?_
        rintro e w1 ⟨rfl, hb1⟩
        have HB1 := Lib.hid (HB.out.step hb1)
        clear hb1 x0 x1 x2 x3
        go_wp2_with fail
        go_roundw
        case rel => exact ⟨k + 1, by omega, by go_num, HR.out, HB1.out⟩
        case measure => simp [intOf]; omega
    · obtain rfl : k = l.length := by omega
      have HR : Hid (badAt 0 l = -1) := by show _ = _; rw [HK.out, List.drop_length]; rfl
      clear HK
      go_wp2_with fail
      go_returns
      exact ⟨by rw [HR.out]; rfl, HB.out⟩
theorem containsBad_any (v : Value) (l : List Ac) (w : World) (he : Env w) (hv : SlAt w v l.length (acVals l)) (hl : l.length ≤ 1000000) :
    Calls Tryz.prog 51 #[v, .func (.func 52) #[] #[]] w fun e w' => e = .returned (.bool (!l.all Ac.right)) ∧ Below w.heap.size w w' := by
  have C := Lib.hid (findAct_any 52 tells52 v l w he hv hl)
  have hb := badAt_all l 0
  obtain ⟨br, hbr⟩ : ∃ b, l.all Ac.right = b := ⟨_, rfl⟩
  rw [hbr] at hb ⊢
  generalize badAt 0 l = n at *
  clear hbr he hv
  cases br
  · have t1 : decide (0 ≤ n) = true := decide_eq_true (hb.2 rfl)
    clear hb
    go_enter Tryz.func51, Tryz.ntmps51
    go_wp2_with fail
    refine Calls.mono C.out ?_
    rintro e w1 ⟨rfl, hb1⟩
    have HB1 := Lib.hid hb1
    clear hb1
    go_wp2_with fail
    go_returns
    exact ⟨rfl, HB1.out⟩
  · have t1 : decide (0 ≤ n) = false := decide_eq_false (fun h => by have := hb.1 h; cases this)
    clear hb
    go_enter Tryz.func51, Tryz.ntmps51
    go_wp2_with fail
    refine Calls.mono C.out ?_
    rintro e w1 ⟨rfl, hb1⟩
    have HB1 := Lib.hid hb1
    clear hb1
    go_wp2_with fail
    go_returns
    exact ⟨rfl, HB1.out⟩
theorem idx_ge : ∀ s : Bytes, -1 ≤ Lib.indexByte s 10
  | [] => by simp [Lib.indexByte]
  | b :: l => by
    have := idx_ge l
    simp only [Lib.indexByte]
    split
    · omega
    · split <;> omega
theorem idx_iff : ∀ s : Bytes, 0 ≤ Lib.indexByte s 10 ↔ s.contains 10 = true
  | [] => by simp [Lib.indexByte]
  | b :: l => by
    have ih := idx_iff l
    have h0 := idx_ge l
    rw [Lib.indexByte, List.contains_cons]
    by_cases h : b = 10
    · subst h; simp
    · have h1 : (b == 10) = false := by simpa using h
      have h2 : ((10 : UInt8) == b) = false := by simpa using fun e => h e.symm
      rw [h1, h2, Bool.false_or, ← ih, if_neg (by simp)]
      by_cases h3 : Lib.indexByte l 10 = -1
      · rw [if_pos (by simpa using h3), h3]
      · rw [if_neg (by simpa using h3)]
        omega
theorem idx_contains (s : Bytes) : decide (0 ≤ Lib.indexByte s 10) = s.contains 10 := by
  rw [Bool.eq_iff_iff, decide_eq_true_iff]; exact idx_iff s
theorem formed1_pred (w : World) : PredAt Tryz.prog 49 #[] (fun s : Bytes => .string ⟨s.toArray⟩) (fun s => s.contains 10) w := fun W s hb => by
  unfold FnGives
  have C := Lib.hid (fun w => Tryz.strings_Contains_one ⟨s.toArray⟩ 10 w)
  simp only [idx_contains] at C
  obtain ⟨c, hc⟩ : ∃ c, s.contains 10 = c := ⟨_, rfl⟩
  rw [hc] at C
  have HC := Lib.hid hc
  clear hc
  go_enter Tryz.func49, Tryz.ntmps49
  go_wp2_with fail
  refine Calls.mono (C.out _) ?_
  rintro e w1 ⟨rfl, rfl⟩
  go_wp2_with fail
  go_returns
  exact ⟨ret_bool HC.out.symm, 0, rfl⟩
theorem anyLn (l : List Bytes) : l.any (fun s => s.contains 10) = !l.all (fun s => !s.contains 10) := by
  induction l with
  | nil => rfl
  | cons a l ih => simp only [List.any_cons, List.all_cons, ih, Bool.not_and, Bool.not_not]
theorem containsLn (v : Value) (l : List Bytes) (w : World) (h : SlAt w v l.length (svals l)) (hl : l.length ≤ 1000000) :
    Calls Tryz.prog 48 #[v, .func (.func 49) #[] #[]] w fun e w' => e = .returned (.bool (!l.all (fun s => !s.contains 10))) ∧ Below w.heap.size w w' := by
  obtain ⟨a, cap, rfl, hc, hcells⟩ := h
  by_cases h0 : 0 < l.length
  · obtain ⟨b, o, rfl, hat⟩ := hcells h0
    refine (Tryz.slices_ContainsFunc_f48 (fun s : Bytes => .string ⟨s.toArray⟩) (fun s => s.contains 10) 49 #[] (enters_of Tryz.func49 (by kernel_rfl) rfl) b o l.length cap l w (formed1_pred w) (Nat.le_refl _) (by omega) (fun j hj => ?_)).mono ?_
    · exact hat j _ (by simp [svals, hj])
    · rintro e w' ⟨rfl, q, rfl⟩
      refine ⟨?_, Below.drewN _ _ _⟩
      rw [List.take_length, anyLn]
  · have : l = [] := List.eq_nil_of_length_eq_zero (by omega)
    subst this
    refine (Tryz.slices_ContainsFunc_empty_f48 (α := Bytes) a cap _ w).mono ?_
    rintro e w' ⟨rfl, rfl⟩
    exact ⟨rfl, Below.refl _ _⟩
theorem Sc.formed_eq (x : Sc) : x.formed = ([x.lines, x.most, x.room, x.delay, x.buckets].all isW && (decide (x.clients.length ≤ 8) && (decide (x.acts.length ≤ 2000) && (x.clients.all Cl.formed && x.acts.all Ac.right)))) := by
  unfold Sc.formed
  simp [Bool.and_assoc]
theorem slAt_new' (w : World) (cs : Array Value) (t : TypeId) (n cap b m : Nat) (l : List Value) (hn : n ≤ cap) (hb : b = w.heap.size) (hm : n = m) (hl : cs.toList = l) : SlAt (w.alloc (.cells cs t)) (.slice (some ⟨b, 0, none⟩) n cap) m l := by
  subst hb hm hl; exact slAt_new w cs t n cap hn
/-- Bounds that are enough for every count. -/
structure Modest (x : Sc) : Prop where
  cl : x.clients.length ≤ 1000000
  ac : x.acts.length ≤ 1000000
  ln : ∀ c ∈ x.clients, c.lines.length ≤ 1000000
set_option maxRecDepth 100000 in
set_option maxHeartbeats 2000000 in
theorem isFormed_any (x : Sc) (cv av : Value) (w : World) (he : Env w) (h : ScAt w cv av x) (hm : Modest x) : Calls Tryz.prog 24 #[scVal x cv av] w fun e w' => e = .returned (.bool x.formed) ∧ Below w.heap.size w w' := by
  obtain ⟨hav, lvs, hlen, hcv, hlv⟩ := h
  have CB := Lib.hid (fun w he hv => containsBad_any av x.acts w he hv hm.ac)
  have HAV := Lib.hid hav
  obtain ⟨aa, ac, rfl, hac, _⟩ := hav
  obtain ⟨ca, cc, rfl, hcc, hcells⟩ := hcv
  have HC := Lib.hid hcells
  have HLV := Lib.hid hlv
  have HE := Lib.hid he
  have HF := Lib.hid (Sc.formed_eq x)
  have C5 := Lib.hid (fun v w h => isWord_any v [x.lines, x.most, x.room, x.delay, x.buckets] w h (by simp))
  have S0 : Hid (St w w []) := St.start w
  have HLN := Lib.hid hlen
  have HMO := Lib.hid hm.ln
  have hcl := hm.cl
  have hacl := hm.ac
  obtain ⟨b5, hb5⟩ : ∃ b, [x.lines, x.most, x.room, x.delay, x.buckets].all isW = b := ⟨_, rfl⟩
  rw [hb5] at C5 HF
  unfold scVal
  obtain ⟨xl, xm, xr, xd, xb, cls, acts⟩ := x
  simp only at *
  clear he hcells hlv hb5 hlen hm
  cases b5 with
  | false =>
    rw [Bool.false_and] at HF
    go_enter Tryz.func24, Tryz.ntmps24
    go_wp2_with fail
    refine Calls.mono (C5.out _ _ (slAt_new' _ _ _ _ _ _ _ _ (Nat.le_refl _) (by simp) rfl rfl)) ?_
    rintro e w1 ⟨rfl, hb1⟩
    refine St.call (St.alloc (St.alloc (St.alloc (S0.out)))) hb1 ?_
    intro S1
    clear hb1
    try (simp only [World.size_alloc] at S1)
    go_wp2_with fail
    go_returns
    exact ⟨ret_bool HF.out.symm, S1.out.below⟩
  | true =>
    rw [Bool.true_and] at HF
    by_cases h8 : cls.length ≤ 8
    · rw [decide_eq_true h8, Bool.true_and] at HF
      have t8 : ¬ (8 : Int) < (cls.length : Int) := by omega
      by_cases h2000 : acts.length ≤ 2000
      · rw [decide_eq_true h2000, Bool.true_and] at HF
        have t2000 : ¬ (2000 : Int) < (acts.length : Int) := by omega
        go_enter Tryz.func24, Tryz.ntmps24
        go_wp2_with fail
        refine Calls.mono (C5.out _ _ (slAt_new' _ _ _ _ _ _ _ _ (Nat.le_refl _) (by simp) rfl rfl)) ?_
        rintro e w1 ⟨rfl, hb1⟩
        refine St.call (St.alloc (St.alloc (St.alloc (S0.out)))) hb1 ?_
        intro S1
        clear hb1
        try (simp only [World.size_alloc] at S1)
        have F1 := S1.out.facts
        simp only [St.Facts, cellFacts, apartFacts, and_true] at F1
        go_wp2_with fail
        have SB : Hid (St w w1 [(w.heap.size, #[.int .i64 xl, .int .i64 xm, .int .i64 xr, .int .i64 xd, .int .i64 xb, .slice ca cls.length cc, .slice aa acts.length ac], 28)]) := St.tail (St.tail S1.out)
        clear S1 F1 C5
        go_loopw [5, 36] (fun _ i wr => ∃ k : Nat, k ≤ cls.length ∧ i = .int .i64 k ∧ Hid ((cls.take k).all Cl.formed = true) ∧ Hid (St w wr [(w.heap.size, #[.int .i64 xl, .int .i64 xm, .int .i64 xr, .int .i64 xd, .int .i64 xb, .slice ca cls.length cc, .slice aa acts.length ac], 28)])) (fun _ i _ => cls.length - (intOf i).toNat)
        case atStart => exact ⟨0, by omega, rfl, by show _ = _; simp, SB.out⟩
        case round =>
          obtain ⟨k, hk, rfl, HA, SR⟩ := hrel
          by_cases hlt : k < cls.length
          · obtain ⟨b, o, rfl, hat⟩ := HC.out (by omega)
            obtain ⟨c, hc⟩ : ∃ c, cls[k]? = some c := ⟨cls[k], by simp [hlt]⟩
            obtain ⟨lv, hl⟩ : ∃ lv, lvs[k]? = some lv := ⟨lvs[k]'(by rw [HLN.out]; exact hlt), List.getElem?_eq_getElem _⟩
            obtain ⟨x0, x1⟩ := clVals_at (hat.kept SR.out.below) hc hl
            have hS := HLV.out k c lv hc hl
            have HS := Lib.hid (hS.kept SR.out.below)
            obtain ⟨la, lc, rfl, hlc, _⟩ := hS
            have hc6 : c.lines.length ≤ 1000000 := HMO.out c (List.mem_of_getElem? hc)
            have CW := Lib.hid (fun v w h => isWord_any v [c.tries] w h (by simp))
            have CL := Lib.hid (fun v w h => containsLn v c.lines w h hc6)
            have HCF : Hid (c.formed = ([c.tries].all isW && (decide (c.lines.length ≤ 100) && c.lines.all fun l => !l.contains 10))) := by
              show _ = _
              unfold Cl.formed; simp [Bool.and_assoc]
            have HBAD : Hid (c.formed = false → cls.all Cl.formed = false) := fun h => by
              rw [List.all_eq_false]; exact ⟨c, List.mem_of_getElem? hc, by simp [h]⟩
            have HGOOD : Hid (c.formed = true → (cls.take (k + 1)).all Cl.formed = true) := fun h => by
              rw [List.take_add_one, hc, List.all_append, HA.out]; simp [h]
            clear hc hl hat HA
            generalize c.formed = cf at *
            obtain ⟨ct, clines⟩ := c
            simp only at *
            obtain ⟨bw, hbw⟩ : ∃ b, [ct].all isW = b := ⟨_, rfl⟩
            obtain ⟨bl, hbl⟩ : ∃ b, (clines.all fun l => !l.contains 10) = b := ⟨_, rfl⟩
            rw [hbw] at CW HCF
            rw [hbl] at CL HCF
            clear hbw hbl
            have W0 : Hid (St w (((wr.alloc (.cells #[.int .i64 ct, .slice la clines.length lc] 48)).alloc (.cells #[.int .i64 ct] 3))) _) := St.alloc (St.alloc SR.out)
            cases bw with
            | false =>
              rw [Bool.false_and] at HCF
              go_wp2_with fail
              refine Calls.mono (CW.out _ _ (slAt_new' _ _ _ _ _ _ _ _ (Nat.le_refl _) (by simp) rfl rfl)) ?_
              rintro e w2 ⟨rfl, hb2⟩
              have S2 := Lib.hid (W0.out.kept hb2)
              clear hb2 x0 x1
              go_wp2_with fail
              go_returns
              exact ⟨ret_bool (by rw [HF.out, HBAD.out HCF.out, Bool.false_and]), S2.out.below⟩
            | true =>
              rw [Bool.true_and] at HCF
              by_cases h100 : clines.length ≤ 100
              · rw [decide_eq_true h100, Bool.true_and] at HCF
                have t100 : ¬ (100 : Int) < (clines.length : Int) := by omega
                go_wp2_with fail
                refine Calls.mono (CW.out _ _ (slAt_new' _ _ _ _ _ _ _ _ (Nat.le_refl _) (by simp) rfl rfl)) ?_
                rintro e w2 ⟨rfl, hb2⟩
                have hs2 := W0.out.kept hb2
                have S2 := Lib.hid hs2
                simp only [World.size_alloc] at S2
                have HS2 := Lib.hid (HS.out.kept ((((Below.refl _ wr).alloc (Nat.le_refl _) (.cells #[.int .i64 ct, .slice la clines.length lc] 48)).alloc (by simp) (.cells #[.int .i64 ct] 3)).step hb2))
                have F2 := S2.out.facts
                simp only [St.Facts, cellFacts, apartFacts, and_true] at F2
                clear hb2 x0 x1 hs2
                go_wp2_with fail
                refine Calls.mono (CL.out _ _ HS2.out) ?_
                rintro e w3 ⟨rfl, hb3⟩
                have S3 := Lib.hid (S2.out.kept hb3)
                clear hb3 F2
                cases bl with
                | false =>
                  go_wp2_with fail
                  go_returns
                  exact ⟨ret_bool (by rw [HF.out, HBAD.out HCF.out, Bool.false_and]), S3.out.below⟩
                | true =>
                  go_wp2_with fail
                  go_roundw
                  case rel => exact ⟨k + 1, by omega, by go_num, HGOOD.out HCF.out, St.tail (St.tail S3.out)⟩
                  case measure => simp [intOf]; omega
              · rw [decide_eq_false h100, Bool.false_and] at HCF
                have t100 : (100 : Int) < (clines.length : Int) := by omega
                go_wp2_with fail
                refine Calls.mono (CW.out _ _ (slAt_new' _ _ _ _ _ _ _ _ (Nat.le_refl _) (by simp) rfl rfl)) ?_
                rintro e w2 ⟨rfl, hb2⟩
                have S2 := Lib.hid (W0.out.kept hb2)
                simp only [World.size_alloc] at S2
                have F2 := S2.out.facts
                simp only [St.Facts, cellFacts, apartFacts, and_true] at F2
                clear hb2 x0 x1
                go_wp2_with fail
                go_returns
                exact ⟨ret_bool (by rw [HF.out, HBAD.out HCF.out, Bool.false_and]), S2.out.below⟩
          · obtain rfl : k = cls.length := by omega
            have HA2 : Hid (cls.all Cl.formed = true) := by have := HA.out; rwa [List.take_length] at this
            rw [HA2.out, Bool.true_and] at HF
            have FR := SR.out.facts
            simp only [St.Facts, cellFacts, apartFacts, and_true] at FR
            obtain ⟨br, hbr⟩ : ∃ b, acts.all Ac.right = b := ⟨_, rfl⟩
            rw [hbr] at CB HF
            clear hbr HA
            cases br
            all_goals
              go_wp2_with fail
              refine Calls.mono (CB.out _ (HE.out.kept SR.out.below) (HAV.out.kept SR.out.below)) ?_
              rintro e w2 ⟨rfl, hb2⟩
              have S2 := Lib.hid (SR.out.kept hb2)
              clear hb2 FR
              go_wp2_with fail
              go_returns
              exact ⟨ret_bool HF.out.symm, S2.out.below⟩
      · rw [decide_eq_false h2000, Bool.false_and] at HF
        have t2000 : (2000 : Int) < (acts.length : Int) := by omega
        go_enter Tryz.func24, Tryz.ntmps24
        go_wp2_with fail
        refine Calls.mono (C5.out _ _ (slAt_new' _ _ _ _ _ _ _ _ (Nat.le_refl _) (by simp) rfl rfl)) ?_
        rintro e w1 ⟨rfl, hb1⟩
        refine St.call (St.alloc (St.alloc (St.alloc (S0.out)))) hb1 ?_
        intro S1
        clear hb1
        try (simp only [World.size_alloc] at S1)
        have F1 := S1.out.facts
        simp only [St.Facts, cellFacts, apartFacts, and_true] at F1
        go_wp2_with fail
        go_returns
        exact ⟨ret_bool HF.out.symm, S1.out.below⟩
    · rw [decide_eq_false h8, Bool.false_and] at HF
      have t8 : (8 : Int) < (cls.length : Int) := by omega
      go_enter Tryz.func24, Tryz.ntmps24
      go_wp2_with fail
      refine Calls.mono (C5.out _ _ (slAt_new' _ _ _ _ _ _ _ _ (Nat.le_refl _) (by simp) rfl rfl)) ?_
      rintro e w1 ⟨rfl, hb1⟩
      refine St.call (St.alloc (St.alloc (St.alloc (S0.out)))) hb1 ?_
      intro S1
      clear hb1
      try (simp only [World.size_alloc] at S1)
      have F1 := S1.out.facts
      simp only [St.Facts, cellFacts, apartFacts, and_true] at F1
      go_wp2_with fail
      go_returns
      exact ⟨ret_bool HF.out.symm, S1.out.below⟩
end Go.Proofs.YtialgdnkkjmpbaaGreatDoor
