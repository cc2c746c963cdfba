/-
  Walks: functions of the reference that make lists: all, kind, Parts. The memory that was there is as it was.
-/
import Derived.Test.YtialgdnkkjmpbaaGreatDoorWa
import Derived.Lib.Strings
namespace Go.Proofs.YtialgdnkkjmpbaaGreatDoor
open Go.RowKit Go.Sort

def ivals (l : List Nat) : List Value := l.map fun n : Nat => .int .i64 (n : Int)
def svals (l : List Bytes) : List Value := l.map fun s => .string ⟨s.toArray⟩
theorem info3 : (Tryz.prog.info? 3).map (fun i => (i.zero, i.size, i.bytes)) = some (some (.int .i64 0), 1, 8) := by kernel_rfl
theorem info9 : (Tryz.prog.info? 9).map (fun i => (i.zero, i.size, i.bytes)) = some (some (.string ⟨#[]⟩), 1, 16) := by kernel_rfl
theorem one_int (k : IntKind) (n : Int) : (Value.int k n).oneCell' = true := rfl

/-- Numbers in a row of the call's own, or none. -/
def NumsRes (ps : List Bytes) (ok bad : Value) (w : World) (e : Ending) (w' : World) : Prop := match nums ps with
  | some l => ∃ v, e = .returned (.tuple #[v, ok]) ∧ w'.ownsRow w.heap.size 3 1 v l.length (ivals l) ∧ Below w.heap.size w w'
  | none => e = .returned (.tuple #[.slice none 0 0, bad]) ∧ Below w.heap.size w w'
theorem nums_snoc : ∀ (ps : List Bytes) (p : Bytes), nums (ps ++ [p]) = match nums ps, num p with | some l, some n => some (l ++ [n]) | _, _ => none
  | [], p => by simp only [List.nil_append, nums]; cases num p <;> rfl
  | q :: ps, p => by
    simp only [List.cons_append, nums, nums_snoc ps p]
    cases num q with
    | none => cases nums ps <;> cases num p <;> rfl
    | some a => cases nums ps <;> cases num p <;> rfl
theorem nums_prefix_none : ∀ (ps qs : List Bytes), nums ps = none → nums (ps ++ qs) = none
  | [], qs, h => by cases h
  | q :: ps, qs, h => by
    simp only [List.cons_append, nums] at h ⊢
    cases hn : num q with
    | none => rfl
    | some a =>
      rw [hn] at h
      simp only [Option.map_eq_none_iff] at h ⊢
      exact nums_prefix_none ps qs h
theorem nums_take_none {ps : List Bytes} {k : Nat} {p : Bytes} {l : List Nat} (hk : ps[k]? = some p) (hl : nums (ps.take k) = some l) (hp : num p = none) : nums ps = none := by
  have h1 : nums (ps.take (k + 1)) = none := by rw [List.take_add_one, hk, Option.toList_some, nums_snoc, hl, hp]
  have := nums_prefix_none _ (ps.drop (k + 1)) h1
  rwa [List.take_append_drop] at this
theorem nums_take_some {ps : List Bytes} {k : Nat} {p : Bytes} {l : List Nat} {n : Nat} (hk : ps[k]? = some p) (hl : nums (ps.take k) = some l) (hp : num p = some n) : nums (ps.take (k + 1)) = some (l ++ [n]) := by
  rw [List.take_add_one, hk, Option.toList_some, nums_snoc, hl, hp]

set_option maxRecDepth 100000 in
set_option maxHeartbeats 1000000 in
theorem all_ref (v : Value) (ps : List Bytes) (w : World) (h : SlAt w v ps.length (svals ps)) (hl : ps.length ≤ 1000000) (hs : ∀ p ∈ ps, p.length ≤ 1000000) :
    Calls Tryz.prog 66 #[v] w (NumsRes ps (.bool true) (.bool false) w) := by
  obtain ⟨a, cap, rfl, hcap, hcells⟩ := h
  have HC := Lib.hid hcells
  have HS := Lib.hid hs
  clear hcells hs
  go_enter Tryz.func66, Tryz.ntmps66
  go_wp2_with fail
  go_loopw [4, 5] (fun o i wr => ∃ (k : Nat) (l : List Nat), k ≤ ps.length ∧ i = .int .i64 k ∧ Hid (nums (ps.take k) = some l) ∧ Hid (l.length = k) ∧ Hid (wr.ownsRow w.heap.size 3 1 o l.length (ivals l)) ∧ Hid (Below w.heap.size w wr)) (fun _ i _ => ps.length - (intOf i).toNat)
  case atStart => exact ⟨0, [], by omega, rfl, by show _ = _; simp [nums], rfl, World.ownsRow_nil _ _ _ _, Below.refl _ _⟩
  case round =>
    obtain ⟨k, l, hk, rfl, HN, HL, HO, HB⟩ := hrel
    by_cases hlt : k < ps.length
    · obtain ⟨b, o, rfl, hc⟩ := HC.out (by omega)
      obtain ⟨p, hp⟩ : ∃ p, ps[k]? = some p := ⟨ps[k], by simp [hlt]⟩
      have x1 : wr.cell? ⟨b, o + k, none⟩ = some (.string ⟨p.toArray⟩) := (hc.kept HB.out) k _ (by simp [svals, hp])
      have HP := Lib.hid hp
      have C := Lib.hid (fun w => number_ref ⟨p.toArray⟩ (HS.out p (List.mem_of_getElem? hp)) w)
      clear hp hc
      cases hn : num p with
      | none =>
        have HNN : Hid (nums ps = none) := nums_take_none HP.out HN.out hn
        have HZ := Lib.hid hn
        clear hn
        go_wp2_with fail
        refine (C.out _).mono ?_
        rintro e w1 ⟨he, rfl⟩
        unfold NumRes at he
        rw [show num (ByteArray.mk p.toArray).data.toList = none from HZ.out] at he
        obtain ⟨z, rfl⟩ := he
        go_wp2_with fail
        go_returns
        unfold NumsRes
        rw [HNN.out]
        exact ⟨rfl, HB.out⟩
      | some n =>
        have HNN : Hid (nums (ps.take (k + 1)) = some (l ++ [n])) := nums_take_some HP.out HN.out hn
        have HZ := Lib.hid hn
        clear hn
        go_wp2_with fail
        refine (C.out _).mono ?_
        rintro e w1 ⟨he, rfl⟩
        unfold NumRes at he
        rw [show num (ByteArray.mk p.toArray).data.toList = some n from HZ.out] at he
        simp only at he
        subst he
        have hl1 : l.length = k := HL.out
        have hlk := Lib.hid hl1
        have hle : l.length ≤ 1000000 := by omega
        clear hl1
        go_wp2_with (at_builtin; go_must (refine wpList_append_new rfl _ _ 71 rfl 3 (.int .i64 0) 8 Tryz.underlying71 info3 rfl w.heap.size u4 _ _ rfl HO.out #[.int .i64 (n : Int)] wr.heap.size rfl rfl (by simp [Value.oneCell']) (by simp; omega) (by simp [maxLen]; omega) HB.out.size ?_))
        intro v3 w3 hown3 hg3
        have HO3 : Hid (w3.ownsRow w.heap.size 3 1 v3 (l ++ [n]).length (ivals (l ++ [n]))) := by show World.ownsRow _ _ _ _ _ _ _; simpa [ivals] using hown3
        have HB3 : Hid (Below w.heap.size w w3) := HB.out.own HO.out hg3 (Nat.le_refl _) HB.out.size
        clear hown3 hg3
        go_wp2_with fail
        go_roundw
        case rel => exact ⟨k + 1, l ++ [n], by omega, by go_num, HNN.out, by show _ = _; simp [hlk.out], HO3.out, HB3.out⟩
        case measure => simp [intOf]; omega
    · obtain rfl : k = ps.length := by omega
      have HN2 : Hid (nums ps = some l) := by have := HN.out; rwa [List.take_length] at this
      clear HN
      go_wp2_with fail
      go_returns
      unfold NumsRes
      rw [HN2.out]
      exact ⟨_, rfl, HO.out, HB.out⟩
theorem kindFrom_step (p : Bytes) (k : Nat) (f : Bytes × Nat) (h : forms[k]? = some f) : kindFrom p k (forms.drop k) = if f.1 = p ∧ f.1 ≠ [] then some k else kindFrom p (k + 1) (forms.drop (k + 1)) := by
  obtain ⟨hk, rfl⟩ := List.getElem?_eq_some_iff.1 h
  rw [List.drop_eq_getElem_cons hk, kindFrom]
theorem beq_str (X : Bytes) (s : ByteArray) : ((⟨X.toArray⟩ : ByteArray).toList == s.toList) = decide (X = s.data.toList) := by
  rw [ByteArray.toList_eq, ByteArray.toList_eq, Bool.eq_iff_iff]; simp
theorem beq_str' (X : Bytes) (s : ByteArray) : (X == s.toList) = decide (X = s.data.toList) := by
  rw [ByteArray.toList_eq, Bool.eq_iff_iff]; simp
set_option maxRecDepth 100000 in
set_option maxHeartbeats 1000000 in
theorem kind_ref (s : ByteArray) (w : World) :
    Calls Tryz.prog 67 #[.string s] w fun e w' => e = .returned (.int .i64 (((kindOf s.data.toList).getD 0 : Nat) : Int)) ∧ Below w.heap.size w w' := by
  go_enter Tryz.func67, Tryz.ntmps67
  go_wp2_with fail
  refine (words_ref _).mono ?_
  rintro e w1 ⟨rfl, rfl⟩
  go_wp2_with fail
  go_loop [4] (fun i => ∃ k : Nat, 1 ≤ k ∧ k ≤ 13 ∧ i = .int .i64 k ∧ Hid (kindOf s.data.toList = kindFrom s.data.toList k (forms.drop k))) (fun i => 13 - (intOf i).toNat)
  case atStart => exact ⟨1, by omega, by omega, rfl, by show _ = _; unfold kindOf; rw [show forms = forms.drop 0 from rfl, kindFrom_step _ 0 ([], 0) rfl, if_neg (fun h => h.2 rfl)]; rfl⟩
  case round =>
    obtain ⟨k, hk1, hk, rfl, HK⟩ := hrel
    by_cases hlt : k < 13
    · obtain ⟨f, hf⟩ : ∃ f, forms[k]? = some f := ⟨_, List.getElem?_eq_getElem (by simpa [forms] using hlt)⟩
      have x1 : (w.alloc (.cells wordVals.toArray 9)).cell? ⟨w.heap.size, k, none⟩ = some (.string ⟨f.1.toArray⟩) := by
        rw [World.cell?_alloc_at _ _ _ _ rfl]; simp [wordVals, hf]
      have x1' : (w.alloc (.cells wordVals.toArray 9)).cell? ⟨w.heap.size, 0 + k, none⟩ = some (.string ⟨f.1.toArray⟩) := by rw [Nat.zero_add]; exact x1
      have hne : f.1 ≠ [] := by
        have := (form_fact k hk1 (by omega)).2.2.1
        obtain ⟨c, r, e, _⟩ := this
        intro h0
        have : formW k = f.1 := by unfold formW; rw [List.getD_eq_getElem?_getD, hf]; rfl
        rw [this, h0] at e; cases e
      have hst := kindFrom_step s.data.toList k f hf
      by_cases he : f.1 = s.data.toList
      · have t1 := beq_str f.1 s
        have t2 := beq_str' f.1 s
        rw [decide_eq_true he] at t1 t2
        have HR : Hid (kindOf s.data.toList = some k) := by show _ = _; rw [HK.out, hst, if_pos ⟨he, hne⟩]
        clear hst he hne hf HK
        go_wp2_with fail
        go_returns
        exact ⟨by rw [HR.out]; rfl, by go_grown⟩
      · have t1 := beq_str f.1 s
        have t2 := beq_str' f.1 s
        rw [decide_eq_false he] at t1 t2
        have HR : Hid (kindOf s.data.toList = kindFrom s.data.toList (k + 1) (forms.drop (k + 1))) := by show _ = _; rw [HK.out, hst, if_neg (fun h => he h.1)]
        clear hst he hne hf HK
        go_wp2_with fail
        go_round
        case rel => exact ⟨k + 1, by omega, by omega, by go_num, HR.out⟩
        case measure => simp [intOf]; omega
    · obtain rfl : k = 13 := by omega
      have HR : Hid (kindOf s.data.toList = none) := by show _ = _; rw [HK.out]; rfl
      clear HK
      go_wp2_with fail
      go_returns
      exact ⟨by rw [HR.out]; rfl, by go_grown⟩

theorem extract_list (s : ByteArray) (a k : Nat) : s.extract a k = ⟨((s.data.toList.drop a).take (k - a)).toArray⟩ := Lib.extract_eq s a k
theorem drop_split (l : Bytes) (a k : Nat) (h : a ≤ k) : l.drop a = (l.drop a).take (k - a) ++ l.drop k := by
  have := (List.take_append_drop (k - a) (l.drop a)).symm
  rwa [List.drop_drop, show a + (k - a) = k by omega] at this
theorem pts_end {l : Bytes} {D : List Bytes} {a n : Nat} (hl : l.length = n) (hp : pts l = D ++ pts (l.drop a)) (hno : ∀ c ∈ (l.drop a).take (n - a), c ≠ 32) : pts l = D ++ [(l.drop a).take (n - a)] := by
  have e : (l.drop a).take (n - a) = l.drop a := List.take_of_length_le (by simp; omega)
  rw [e] at hno ⊢
  rw [hp, pts_plain _ hno]
theorem pts_space {l : Bytes} {D : List Bytes} {a k : Nat} (ha : a ≤ k) (hk : l[k]? = some 32) (hp : pts l = D ++ pts (l.drop a)) (hno : ∀ c ∈ (l.drop a).take (k - a), c ≠ 32) : pts l = (D ++ [(l.drop a).take (k - a)]) ++ pts (l.drop (k + 1)) := by
  obtain ⟨hlt, hg⟩ := List.getElem?_eq_some_iff.1 hk
  have e := drop_split l a k ha
  rw [List.drop_eq_getElem_cons hlt, hg] at e
  rw [e, pts_cut _ _ hno] at hp
  rw [hp]; simp
theorem no_more {l : Bytes} {a k : Nat} {d : UInt8} (ha : a ≤ k) (hk : l[k]? = some d) (hd : d ≠ 32) (hno : ∀ c ∈ (l.drop a).take (k - a), c ≠ 32) : ∀ c ∈ (l.drop a).take (k + 1 - a), c ≠ 32 := by
  rw [show k + 1 - a = (k - a) + 1 by omega, List.take_add_one]
  intro c hc
  rcases List.mem_append.1 hc with hc | hc
  · exact hno c hc
  · rw [List.getElem?_drop, show a + (k - a) = k by omega, hk] at hc
    simp at hc; subst hc; exact hd
theorem at_byte (s : ByteArray) (k : Nat) (h : k < s.size) : s.data.toList[k]? = some s[k] := by
  rw [List.getElem?_eq_getElem (by simpa using h)]; rfl
set_option maxRecDepth 100000 in
set_option maxHeartbeats 1000000 in
theorem parts_ref (s : ByteArray) (hs : s.size ≤ 1000000) (w : World) :
    Calls Tryz.prog 42 #[.string s] w fun e w' => ∃ v, e = .returned v ∧ w'.ownsRow w.heap.size 9 1 v (pts s.data.toList).length (svals (pts s.data.toList)) ∧ Below w.heap.size w w' := by
  have HSZ : Hid (s.data.toList.length = s.size) := by show _ = _; simp
  go_enter Tryz.func42, Tryz.ntmps42
  go_wp2_with fail
  go_loopw [3, 4, 5] (fun o a i wr => ∃ (k at_ : Nat) (D : List Bytes), k ≤ s.size + 1 ∧ at_ ≤ k ∧ i = .int .i64 k ∧ a = .int .i64 at_ ∧ D.length ≤ k ∧ Hid (k ≤ s.size → pts s.data.toList = D ++ pts (s.data.toList.drop at_) ∧ ∀ c ∈ (s.data.toList.drop at_).take (k - at_), c ≠ 32) ∧ Hid (k = s.size + 1 → D = pts s.data.toList) ∧ Hid (wr.ownsRow w.heap.size 9 1 o D.length (svals D)) ∧ Hid (Below w.heap.size w wr)) (fun _ _ i _ => s.size + 1 - (intOf i).toNat)
  case atStart => exact ⟨0, 0, [], by omega, by omega, rfl, rfl, Nat.le_refl _, fun _ => by simp, fun h => by omega, World.ownsRow_nil _ _ _ _, Below.refl _ _⟩
  case round =>
    obtain ⟨k, at_, D, hk, ha, rfl, rfl, hD, H1, H2, HO, HB⟩ := hrel
    by_cases hlt : k ≤ s.size
    · obtain ⟨hp, hno⟩ := H1.out hlt
      clear H1 H2
      by_cases hend : k < s.size
      · have hne : ((k : Int) == (s.size : Int)) = false := by simp; omega
        have hne' : (k == s.size) = false := by simp; omega
        by_cases hsp : s[k] = 32
        · have t1 : ((s[k].toNat : Int) == 32) = true := by rw [hsp]; rfl
          have HX := Lib.hid (pts_space ha (by rw [at_byte s k hend, hsp]) hp hno)
          clear hp hno hsp
          go_wp2_with (at_builtin; go_must (refine wpList_append_new rfl _ _ 43 rfl 9 (.string ⟨#[]⟩) 16 Tryz.underlying43 info9 rfl w.heap.size u3 _ _ rfl HO.out #[.string (s.extract at_ k)] wr.heap.size rfl rfl (by simp [Value.oneCell']) (by simp; omega) (by simp [maxLen]; omega) HB.out.size ?_))
          intro v3 w3 hown3 hg3
          have HO3 : Hid (w3.ownsRow w.heap.size 9 1 v3 (D ++ [(s.data.toList.drop at_).take (k - at_)]).length (svals (D ++ [(s.data.toList.drop at_).take (k - at_)]))) := by show World.ownsRow _ _ _ _ _ _ _; simpa [svals, extract_list] using hown3
          have HB3 : Hid (Below w.heap.size w w3) := HB.out.own HO.out hg3 (Nat.le_refl _) HB.out.size
          clear hown3 hg3
          go_wp2_with fail
          go_roundw
          case rel => exact ⟨k + 1, k + 1, _, by omega, by omega, by go_num, by go_num, by simp; omega, fun _ => ⟨HX.out, by simp⟩, fun h => by omega, HO3.out, HB3.out⟩
          case measure => simp [intOf]; omega
        · have t1 : ((s[k].toNat : Int) == 32) = false := by
            have : s[k].toNat ≠ 32 := fun e => hsp (UInt8.toNat_inj.1 (by rw [e]; rfl))
            simp; omega
          have HX := Lib.hid (no_more ha (at_byte s k hend) hsp hno)
          have HP := Lib.hid hp
          clear hp hno hsp
          go_wp2_with fail
          go_roundw
          case rel => exact ⟨k + 1, at_, D, by omega, by omega, by go_num, rfl, by omega, fun _ => ⟨HP.out, HX.out⟩, fun h => by omega, HO.out, HB.out⟩
          case measure => simp [intOf]; omega
      · obtain rfl : k = s.size := by omega
        have HX := Lib.hid (pts_end HSZ.out hp hno)
        clear hp hno
        go_wp2_with (at_builtin; go_must (refine wpList_append_new rfl _ _ 43 rfl 9 (.string ⟨#[]⟩) 16 Tryz.underlying43 info9 rfl w.heap.size u3 _ _ rfl HO.out #[.string (s.extract at_ s.size)] wr.heap.size rfl rfl (by simp [Value.oneCell']) (by simp; omega) (by simp [maxLen]; omega) HB.out.size ?_))
        intro v3 w3 hown3 hg3
        have HO3 : Hid (w3.ownsRow w.heap.size 9 1 v3 (D ++ [(s.data.toList.drop at_).take (s.size - at_)]).length (svals (D ++ [(s.data.toList.drop at_).take (s.size - at_)]))) := by show World.ownsRow _ _ _ _ _ _ _; simpa [svals, extract_list] using hown3
        have HB3 : Hid (Below w.heap.size w w3) := HB.out.own HO.out hg3 (Nat.le_refl _) HB.out.size
        clear hown3 hg3
        go_wp2_with fail
        go_roundw
        case rel => exact ⟨s.size + 1, s.size + 1, _, by omega, by omega, by go_num, by go_num, by simp; omega, fun h => by omega, fun _ => HX.out.symm, HO3.out, HB3.out⟩
        case measure => simp [intOf]
    · obtain rfl : k = s.size + 1 := by omega
      have HR := Lib.hid (H2.out rfl)
      clear H1 H2
      go_wp2_with fail
      go_returns
      exact ⟨_, rfl, by rw [← HR.out]; exact HO.out, HB.out⟩
end Go.Proofs.YtialgdnkkjmpbaaGreatDoor
