/-
  Walks: strconv.ParseUint at two bytes in base 16, quoted. Conditions: at most a million bytes; the package's two errors are there. The memory that was there is as it was.
-/
import Derived.Test.YtbpnnhdhpahbjaaDoorWv
import Derived.Lib.OthersKept
import Derived.Shelf.Strings.FieldsFuncAny
namespace Go.Proofs.YtbpnnhdhpahbjaaDoor
open Go.RowKit Go.Sort

/-- The package's two errors are there. -/
def Errs (w : World) : Prop := ∃ t1 p1 t2 p2, w.cell? ⟨1, 0, none⟩ = some (.iface t1 p1) ∧ w.cell? ⟨2, 0, none⟩ = some (.iface t2 p2)
theorem Errs.kept {w w' : World} (h : Errs w) (hb : Below w.heap.size w w') : Errs w' := by
  obtain ⟨t1, p1, t2, p2, h1, h2⟩ := h
  exact ⟨t1, p1, t2, p2, hb.cell_kept h1, hb.cell_kept h2⟩

theorem parseHex_ok (t : ByteArray) (h2 : t.size = 2) (n : Nat) (h : hexs 0 t.data.toList = some n) (w : World) :
    Calls Tryd.prog 76 #[.string t, .int .i64 16, .int .i64 8] w fun e w' => e = .returned (.tuple #[.int .u64 n, .nilIface]) ∧ Below w.heap.size w w' := by
  have C := Lib.hid (fun w => parseHex_in t h2 w)
  rw [h] at C
  clear h
  go_enter Tryd.func76, Tryd.ntmps76
  go_wp2_with fail
  refine (C.out _).mono ?_
  rintro e w1 ⟨rfl, hb1⟩
  have HB1 := Lib.hid hb1
  clear hb1
  unfold hexRes
  go_wp2_with fail
  go_ret2
  exact ⟨rfl, HB1.out⟩
set_option maxRecDepth 100000 in
theorem parseHex_bad (t : ByteArray) (h2 : t.size = 2) (h : hexs 0 t.data.toList = none) (w : World) (he : Errs w) :
    Calls Tryd.prog 76 #[.string t, .int .i64 16, .int .i64 8] w fun e w' => ∃ N, e = .returned (.tuple #[.int .u64 0, .iface 101 (.pointer (some ⟨N, 0, none⟩))]) ∧ Below w.heap.size w w' := by
  have C := Lib.hid (fun w => parseHex_in t h2 w)
  rw [h] at C
  have HE := Lib.hid he
  have T := Lib.hid Tryd.strconv_toError_syntax
  clear h he
  go_enter Tryd.func76, Tryd.ntmps76
  go_wp2_with fail
  refine (C.out _).mono ?_
  rintro e w1 ⟨rfl, hb1⟩
  have HB1 := Lib.hid hb1
  obtain ⟨t1, p1, _, _, hc1, _⟩ := HE.out.kept hb1
  clear hb1
  unfold hexRes
  have T1 := Lib.hid (T.out ⟨#[80, 97, 114, 115, 101, 85, 105, 110, 116]⟩ t 16 8 _ w1 (by omega) hc1 (Or.inr ⟨t1, p1, rfl⟩))
  clear hc1
  go_wp2_with fail
  refine T1.out.mono ?_
  rintro e w2 ⟨N, rfl, _, _, hb2⟩
  have HB2 := Lib.hid (HB1.out.step hb2)
  clear hb2
  go_wp2_with fail
  go_ret2
  exact ⟨N, rfl, HB2.out⟩

/-- The bytes between the quotes, read. -/
def unq : List UInt8 → Option (List UInt8)
  | [] => some []
  | c :: l =>
    if c = 92 then
      match l with
      | a :: b :: r => match hexs 0 [a, b] with
        | some n => if plainB (n : Int) || (Lib.toLowerA [a, b] != [a, b]) then none else (unq r).map (UInt8.ofNat n :: ·)
        | none => none
      | _ => none
    else if plainB (c.toNat : Int) then (unq l).map (c :: ·) else none
theorem iter_step {w wr : World} {u : ByteArray} {pos : Nat} {o : Value} {acc : List UInt8} (HO : OwnsBytes wr (w.heap.size + 1) o acc) (HI : wr.heap[w.heap.size]? = some (.stringIter u pos)) (HB : Below w.heap.size w wr) (pos' : Nat) :
    OwnsBytes (wr.iterAt w.heap.size u pos') (w.heap.size + 1) o acc ∧ (wr.iterAt w.heap.size u pos').heap[w.heap.size]? = some (.stringIter u pos') ∧ Below w.heap.size w (wr.iterAt w.heap.size u pos') := by
  refine ⟨own_iterAt HO HI pos', Lib.iterAt_heap _ _ _ _ _ HI, HB.trans ⟨rfl, rfl, rfl, by simp [World.iterAt], fun k hk => ?_⟩⟩
  simp only [World.iterAt]
  rw [Array.getElem?_setIfInBounds_ne (by omega)]

/-- The text between quotes, or nothing. -/
def quo (L : List UInt8) : Option (List UInt8) := if L.length < 2 ∨ L.getD 0 0 ≠ 39 ∨ L.getD (L.length - 1) 0 ≠ 39 then none else unq ((L.drop 1).take (L.length - 2))
def quoRes : Option (List UInt8) → Value
  | some l => .tuple #[.string ⟨l.toArray⟩, .bool true]
  | none => .tuple #[.string ⟨#[]⟩, .bool false]

theorem unq_plain {c : UInt8} {l : List UInt8} (h92 : c ≠ 92) (hp : plainB (c.toNat : Int) = true) : unq (c :: l) = (unq l).map (c :: ·) := by
  rcases l with _ | ⟨a, _ | ⟨b, r⟩⟩
  · simp [unq, h92, hp]
  · rw [unq, if_neg h92, if_pos hp]; simp
  · rw [unq, if_neg h92, if_pos hp]
theorem unq_bad {c : UInt8} {l : List UInt8} (h92 : c ≠ 92) (hp : plainB (c.toNat : Int) = false) : unq (c :: l) = none := by
  rcases l with _ | ⟨a, _ | ⟨b, r⟩⟩
  · rw [unq, if_neg h92, if_neg (by simp [hp])]; simp
  · rw [unq, if_neg h92, if_neg (by simp [hp])]; simp
  · rw [unq, if_neg h92, if_neg (by simp [hp])]
theorem unq_esc {a b : UInt8} {r : List UInt8} {n : Nat} (h : hexs 0 [a, b] = some n) (hp : plainB (n : Int) = false) (hl : (Lib.toLowerA [a, b] != [a, b]) = false) : unq (92 :: a :: b :: r) = (unq r).map (UInt8.ofNat n :: ·) := by
  rw [unq, if_pos rfl]; simp only [h, hp, hl]; rfl
theorem unq_esc_bad {a b : UInt8} {r : List UInt8} (h : hexs 0 [a, b] = none) : unq (92 :: a :: b :: r) = none := by rw [unq, if_pos rfl]; simp only [h]
theorem unq_esc_plain {a b : UInt8} {r : List UInt8} {n : Nat} (h : hexs 0 [a, b] = some n) (hp : plainB (n : Int) = true ∨ (Lib.toLowerA [a, b] != [a, b]) = true) : unq (92 :: a :: b :: r) = none := by
  rw [unq, if_pos rfl]; simp only [h]
  rcases hp with hp | hp <;> simp only [hp, Bool.true_or, Bool.or_true, if_true]
theorem unq_short {l : List UInt8} (h : l.length < 2) : unq (92 :: l) = none := by
  rcases l with _ | ⟨a, _ | ⟨b, r⟩⟩
  · rw [unq, if_pos rfl]; simp
  · rw [unq, if_pos rfl]; simp
  · simp at h; omega
theorem map_snoc {acc : List UInt8} {c : UInt8} {o : Option (List UInt8)} : (o.map (c :: ·)).map (acc ++ ·) = o.map ((acc ++ [c]) ++ ·) := by cases o <;> simp

theorem string_of_owned {w : World} {base : Nat} {v : Value} {l : List UInt8} (h : OwnsBytes w base v l) : (convert 63 9 v).run Tryd.prog w = .ok (.string ⟨l.toArray⟩) w := by
  cases l with
  | nil =>
    rcases h.2 with ⟨hv, _⟩ | ⟨g, cap, cur, hv, _⟩
    · subst hv; kernel_rfl
    · have hv' : v = .slice (some ⟨g, 0, none⟩) ([] : List UInt8).length cap := hv
      rw [hv']
      exact run_convert_bytes_back w 63 9 5 ⟨g, 0, none⟩ cap [] Tryd.underlying63 Tryd.underlying5 Tryd.underlying9 (fun j hj => by simp at hj)
  | cons c l =>
    obtain ⟨g, cap, hv, hc⟩ := h.string (by simp)
    rw [hv]; exact hc

set_option maxRecDepth 100000 in
set_option maxHeartbeats 4000000 in
theorem quoted_not (s : ByteArray) (w : World) (hs : s.size ≤ 1000000) (h : s.size < 2 ∨ s.data.toList.getD 0 0 ≠ 39 ∨ s.data.toList.getD (s.size - 1) 0 ≠ 39) :
    Calls Tryd.prog 64 #[.string s] w fun e w' => e = .returned (.tuple #[.string ⟨#[]⟩, .bool false]) ∧ Below w.heap.size w w' := by
  by_cases h2 : s.size < 2
  · clear h
    go_enter Tryd.func64, Tryd.ntmps64
    go_wp2_with fail
    go_ret2
    exact ⟨rfl, Below.refl _ _⟩
  · have hg : ∀ i (hi : i < s.size), s.data.toList.getD i 0 = s[i] := fun i hi => by
      rw [List.getD_eq_getElem?_getD, List.getElem?_eq_getElem (by simpa using hi)]; rfl
    rw [hg 0 (by omega), hg (s.size - 1) (by omega)] at h
    have h0 : 0 < s.size := by omega
    have hl : s.size - 1 < s.size := by omega
    have e39 : ∀ c : UInt8, ((c.toNat : Int) != 39) = !decide (c = 39) := fun c => by
      rw [Bool.eq_iff_iff]; simp [← UInt8.toNat_inj]; omega
    by_cases hq : s[0] = 39
    · have hq2 : ¬ s[s.size - 1] = 39 := by
        rcases h with h | h | h
        · omega
        · exact absurd hq h
        · exact h
      have t1 : ((s[0].toNat : Int) != 39) = false := by rw [e39]; simp [hq]
      have t2 : ((s[s.size - 1].toNat : Int) != 39) = true := by rw [e39]; simp [hq2]
      have e1 : (s.size : Int) - 1 = ((s.size - 1 : Nat) : Int) := by omega
      clear h hq hq2 hg e39
      go_enter Tryd.func64, Tryd.ntmps64
      go_wp2_with fail
      go_ret2
      exact ⟨rfl, Below.refl _ _⟩
    · have t1 : ((s[0].toNat : Int) != 39) = true := by rw [e39]; simp [hq]
      clear h hq hg e39
      go_enter Tryd.func64, Tryd.ntmps64
      go_wp2_with fail
      go_ret2
      exact ⟨rfl, Below.refl _ _⟩

theorem conv_u8 (n : Nat) (h : n < 256) (w : World) : (convert 82 5 (.int .u64 (n : Int))).run Tryd.prog w = .ok (.int .u8 (n : Int)) w := by
  have h1 : IntKind.u8.wrap (n : Int) = n := by rw [IntKind.wrap_u8]; omega
  go_simp
theorem hexs_two {a b : UInt8} {n : Nat} (h : hexs 0 [a, b] = some n) : n < 256 ∧ a.toNat < 128 ∧ b.toNat < 128 := by
  have hv : ∀ {c : UInt8} {d : Nat}, hexVal c = some d → d < 16 ∧ c.toNat < 128 := fun {c d} h => by
    unfold hexVal at h
    repeat' split at h
    all_goals first | (cases h; done) | (cases h; omega)
  simp only [hexs] at h
  cases ha : hexVal a with
  | none => rw [ha] at h; cases h
  | some x =>
    rw [ha] at h
    simp only at h
    cases hb : hexVal b with
    | none => rw [hb] at h; cases h
    | some y =>
      rw [hb] at h
      simp only [Option.some.injEq] at h
      have h1 := hv ha
      have h2 := hv hb
      omega
theorem list_at {u : ByteArray} {i : Nat} (h : i < u.size) : u.data.toList.drop i = u[i] :: u.data.toList.drop (i + 1) := by
  rw [List.drop_eq_getElem_cons (by simpa using h)]; rfl

set_option maxRecDepth 100000 in
set_option maxHeartbeats 8000000 in
theorem quoted_in (s : ByteArray) (w : World) (hs : s.size ≤ 1000000) (he : Errs w) (h2 : 2 ≤ s.size) (hq0 : s[0] = 39) (hq1 : s[s.size - 1] = 39) (u : ByteArray) (hu : u = s.extract 1 (s.size - 1)) :
    Calls Tryd.prog 64 #[.string s] w fun e w' => e = .returned (quoRes (unq u.data.toList)) ∧ Below w.heap.size w w' := by
  have h0 : 0 < s.size := by omega
  have hl : s.size - 1 < s.size := by omega
  have t1 : ((s[0].toNat : Int) != 39) = false := by rw [hq0]; rfl
  have t2 : ((s[s.size - 1].toNat : Int) != 39) = false := by rw [hq1]; rfl
  have e1 : (s.size : Int) - 1 = ((s.size - 1 : Nat) : Int) := by omega
  have hus : u.size ≤ 1000000 := by rw [hu]; simp; omega
  have HE := Lib.hid he
  have hsl : s.extract 1 (s.size - 1) = u := hu.symm
  clear hq0 hq1 he hu
  go_enter Tryd.func64, Tryd.ntmps64
  go_wp2_with fail
  clear t1 t2 e1 hsl
  go_loopw [4, 5] (fun o sk wr => ∃ (pos k : Nat) (acc : List UInt8), pos + k ≤ u.size ∧ k ≤ 2 ∧ acc.length ≤ pos + k ∧ sk = .int .i64 k ∧ Hid (∀ j (hj : j < u.size), pos ≤ j → j < pos + k → (u[j]).toNat < 128) ∧ Hid (OwnsBytes wr (w.heap.size + 1) o acc) ∧ Hid (wr.heap[w.heap.size]? = some (.stringIter u pos)) ∧ Hid (unq u.data.toList = (unq (u.data.toList.drop (pos + k))).map (acc ++ ·)) ∧ Hid (Below w.heap.size w wr)) (fun _ _ wr => u.size - wr.iterPos w.heap.size)
  case atStart => exact ⟨0, 0, [], by omega, by omega, by simp, rfl, fun j hj h1 h2 => by omega, World.ownsRow_nil _ _ _ _, World.iter_heap _ _ _, by show _ = _; simp, (Below.refl _ _).alloc (Nat.le_refl _) _⟩
  case round =>
    obtain ⟨pos, k, acc, hpk, hk2, hal, rfl, HA, HO, HI, HU, HB⟩ := hrel
    by_cases hlt : pos < u.size
    · by_cases hasc : u[pos].toNat < 128
      · have hnx := fun ty => Lib.run_next_ascii_at (P := Tryd.prog) wr w.heap.size u pos ty HI.out hlt hasc
        obtain ⟨hO1, hI1, hB1⟩ := iter_step HO.out HI.out HB.out (pos + 1)
        have HO1 := Lib.hid hO1
        have HI1 := Lib.hid hI1
        have HB1 := Lib.hid hB1
        clear hO1 hI1 hB1
        by_cases hk0 : 0 < k
        · go_wp2_with fail
          go_roundw
          case rel => exact ⟨pos + 1, k - 1, acc, by omega, by omega, by omega, by go_num, fun j hj h1 h2 => HA.out j hj (by omega) (by omega), HO1.out, HI1.out, by have := HU.out; rwa [show pos + 1 + (k - 1) = pos + k by omega], HB1.out⟩
          case measure => rw [iterPos_of HI1.out, iterPos_of HI.out]; omega
        · obtain rfl : k = 0 := by omega
          have HU0 := Lib.hid HU.out
          rw [Nat.add_zero, list_at hlt] at HU0
          clear HU HA
          have hc256 : u[pos].toNat < 256 := u[pos].toNat_lt
          by_cases h92 : u[pos] = 92
          · rw [h92] at HU0
            have t92 : ((u[pos].toNat : Int) == 92) = true := by rw [h92]; rfl
            clear h92
            by_cases hin : pos + 2 < u.size
            · have hp1 : pos + 1 < u.size := by omega
              have hdd : u.data.toList.drop (pos + 1) = u[pos + 1] :: u[pos + 2] :: u.data.toList.drop (pos + 3) := by rw [list_at hp1, list_at hin]
              rw [hdd] at HU0
              obtain ⟨t, ht⟩ : ∃ t, t = u.extract (pos + 1) (pos + 3) := ⟨_, rfl⟩
              have htl : t.data.toList = [u[pos + 1], u[pos + 2]] := by
                rw [ht, ByteArray.data_extract, Array.toList_extract, List.extract_eq_take_drop, hdd, show pos + 3 - (pos + 1) = 2 by omega]; rfl
              have ht2 : t.size = 2 := by have : t.data.toList.length = t.size := Array.length_toList; rw [htl] at this; simpa using this.symm
              have hex : u.extract (pos + 1) (pos + 3) = t := ht.symm
              have HE1 := Lib.hid (HE.out.kept HB1.out)
              clear hdd ht
              have HTL := Lib.hid htl
              cases hx : hexs 0 [u[pos + 1], u[pos + 2]] with
              | none =>
                have HR : Hid (unq u.data.toList = none) := by show _ = _; rw [HU0.out, unq_esc_bad hx]; rfl
                have C := Lib.hid (fun w h => parseHex_bad t ht2 (by rw [htl]; exact hx) w h)
                clear htl hx HU0
                go_wp2_with fail
                refine (C.out _ HE1.out).mono ?_
                rintro e w1 ⟨N, rfl, hb1⟩
                have HB2 := Lib.hid (HB1.out.step hb1)
                clear hb1
                go_wp2_with fail
                refine wp_region_mixed 23 [(0, false), (1, false), (2, false), (3, false), (4, false), (5, false), (6, false), (7, false), (8, false), (9, false), (10, false), (11, false), (12, false), (13, false), (14, false), (15, false), (16, false), (17, false), (18, false), (19, false), (20, false), (21, false), (22, false)] (by kernel_rfl) (by kernel_rfl) ?_
                repeat (refine wpM_mild rfl (fun K hK => ?_); go_simp; first | (refine hK _ ?_; clear hK K) | (apply Exists.intro; refine ⟨fun _ => ?_, hK _ ?_⟩; (fail); clear hK K))
                refine wpM_end ?_
                intro w2 _ hb2
                have HB3 := Lib.hid (HB2.out.step hb2)
                clear hb2
                go_wp2_with fail
                go_ret2
                exact ⟨by rw [HR.out]; rfl, HB3.out⟩
              | some n =>
                obtain ⟨hn256, ha128, hb128⟩ := hexs_two hx
                have cv := fun w => conv_u8 n hn256 w
                have C := Lib.hid (fun w => parseHex_ok t ht2 n (by rw [htl]; exact hx) w)
                have P1 : Hid (∀ w, Calls Tryd.prog 55 #[.int .u8 (n : Int)] w fun e w' => e = .returned (.bool (plainB (n : Int))) ∧ Laid w w') := fun w => (plain_any (n : Int) w).mono (by rintro e w' ⟨rfl, rfl⟩; exact ⟨rfl, Below.refl _ _⟩)
                have T1 : Hid (∀ w, Calls Tryd.prog 77 #[.string t] w fun e w' => e = .returned (.string ⟨(Lib.toLowerA [u[pos + 1], u[pos + 2]]).toArray⟩) ∧ Laid w w') := fun w => by
                  have := Tryd.strings_ToLower_ascii t w (by omega) (fun j b hb => by
                    rw [htl] at hb
                    match j, hb with
                    | 0, hb => simp at hb; subst hb; exact ha128
                    | 1, hb => simp at hb; subst hb; exact hb128
                    | j + 2, hb => simp at hb)
                  rw [htl] at this
                  exact this
                obtain ⟨lb, hlb⟩ : ∃ lb, lb = (Lib.toLowerA [u[pos + 1], u[pos + 2]] != [u[pos + 1], u[pos + 2]]) := ⟨_, rfl⟩
                obtain ⟨X, hX⟩ : ∃ X, X = Lib.toLowerA [u[pos + 1], u[pos + 2]] := ⟨_, rfl⟩
                have f1 : ((⟨X.toArray⟩ : ByteArray).toList == t.toList) = !lb := by rw [ByteArray.toList_eq, ByteArray.toList_eq, htl, hlb, ← hX]; simp [bne]
                have f2 : (X == t.toList) = !lb := by rw [ByteArray.toList_eq, htl, hlb, ← hX]; simp [bne]
                rw [← hX] at T1
                have HLB := Lib.hid hlb
                clear htl hlb hX
                go_wp2_with fail
                refine (C.out _).mono ?_
                rintro e w1 ⟨rfl, hb1⟩
                have HB2 := Lib.hid (HB1.out.step hb1)
                have HO2 := Lib.hid (HO1.out.kept hb1)
                have HI2 := Lib.hid (hb1.blk_kept HI1.out)
                clear hb1
                go_wp2_with fail
                cases hp : plainB (n : Int)
                · rw [hp] at P1
                  have HPl := Lib.hid hp
                  clear hp
                  have n1 : ((pos : Int) + 1).toNat = pos + 1 := by omega
                  have n3 : ((pos : Int) + 3).toNat = pos + 3 := by omega
                  have g1 : (0 : Int) ≤ (pos : Int) + 1 := by omega
                  have g3 : (pos : Int) + 1 ≤ (pos : Int) + 3 := by omega
                  have g4 : (pos : Int) + 3 ≤ (u.size : Int) := by omega
                  have x1 : IntKind.i64.wrap ((pos : Int) + 1) = (pos : Int) + 1 := IntWalk.i64_in _ (by omega)
                  have x3 : IntKind.i64.wrap ((pos : Int) + 3) = (pos : Int) + 3 := IntWalk.i64_in _ (by omega)
                  cases lb
                  all_goals
                    refine wp_region_mixed 23 [(0, false), (1, false), (2, false), (3, false), (4, false), (5, false), (6, false), (7, false), (8, false), (9, false), (10, false), (11, false), (12, false), (13, false), (14, false), (15, false), (16, false), (17, false), (18, false), (19, false), (20, false), (21, false), (22, false)] (by kernel_rfl) (by kernel_rfl) ?_
                    repeat (refine wpM_mild rfl (fun K hK => ?_); go_simp; first | (refine hK _ ?_; clear hK K) | (apply Exists.intro; refine ⟨fun _ => ?_, hK _ ?_⟩; (first | with_reducible exact P1.out _ | with_reducible exact T1.out _); clear hK K))
                    refine wpM_end ?_
                    intro w2 _ hb2
                    have HB3 := Lib.hid (HB2.out.step hb2)
                    have HO3 := Lib.hid (HO2.out.kept hb2)
                    have HI3 := Lib.hid (hb2.blk_kept HI2.out)
                    clear hb2 x1 x3 n1 n3 g1 g3 g4
                  · have HR : Hid (unq u.data.toList = (unq (u.data.toList.drop (pos + 3))).map ((acc ++ [UInt8.ofNat n]) ++ ·)) := by show _ = _; rw [HU0.out, unq_esc hx HPl.out HLB.out.symm, map_snoc]
                    have hof : ((UInt8.ofNat n).toNat : Int) = n := by simp; omega
                    have HOF := Lib.hid hof
                    clear hof hx
                    go_wp2_with (at_builtin; go_must (refine wpList_append_new rfl _ _ 63 rfl 5 (.int .u8 0) 1 Tryd.underlying63 info5 rfl (w.heap.size + 1) u4 _ _ rfl HO3.out #[.int .u8 (n : Int)] _ rfl rfl (by simp [Value.oneCell']) (by simp; omega) (by simp [maxLen]; omega) (by have := (Array.getElem?_eq_some_iff.1 HI3.out).1; omega) ?_))
                    intro v3 w3 hown3 hg3
                    have HO4 := Lib.hid hown3
                    have HB4 : Hid (Below w.heap.size w w3) := Below.grown HB3.out hg3 HB3.out.size (fun k hk => by have := (World.ownsRow.lt HO3.out k hk).1; omega)
                    have HI4 : Hid (w3.heap[w.heap.size]? = some (.stringIter u (pos + 1))) := by
                      show _ = _
                      rw [hg3.block _ (Array.getElem?_eq_some_iff.1 HI3.out).1 (fun e => by have := (World.ownsRow.lt HO3.out _ e.symm).1; omega)]
                      exact HI3.out
                    clear hown3 hg3
                    go_wp2_with fail
                    go_roundw
                    case rel => exact ⟨pos + 1, 2, acc ++ [UInt8.ofNat n], by omega, by omega, by simp; omega, rfl, fun j hj h1 h2 => by
                      have hj' : j = pos + 1 ∨ j = pos + 2 := by omega
                      rcases hj' with rfl | rfl
                      · exact ha128
                      · exact hb128, OwnsBytes.of HO4.out (by rw [bytesV_append]; simp only [bytesV, List.map_cons, List.map_nil, HOF.out]), HI4.out, HR.out, HB4.out⟩
                    case measure => rw [iterPos_of HI4.out, iterPos_of HI.out]; omega
                  · have HR : Hid (unq u.data.toList = none) := by show _ = _; rw [HU0.out, unq_esc_plain hx (Or.inr HLB.out.symm)]; rfl
                    go_wp2_with fail
                    go_ret2
                    exact ⟨by rw [HR.out]; rfl, HB3.out⟩
                · rw [hp] at P1
                  have HR : Hid (unq u.data.toList = none) := by show _ = _; rw [HU0.out, unq_esc_plain hx (Or.inl hp)]; rfl
                  refine wp_region_mixed 23 [(0, false), (1, false), (2, false), (3, false), (4, false), (5, false), (6, false), (7, false), (8, false), (9, false), (10, false), (11, false), (12, false), (13, false), (14, false), (15, false), (16, false), (17, false), (18, false), (19, false), (20, false), (21, false), (22, false)] (by kernel_rfl) (by kernel_rfl) ?_
                  repeat (refine wpM_mild rfl (fun K hK => ?_); go_simp; first | (refine hK _ ?_; clear hK K) | (apply Exists.intro; refine ⟨fun _ => ?_, hK _ ?_⟩; (first | with_reducible exact P1.out _); clear hK K))
                  refine wpM_end ?_
                  intro w2 _ hb2
                  have HB3 := Lib.hid (HB2.out.step hb2)
                  clear hb2
                  go_wp2_with fail
                  go_ret2
                  exact ⟨by rw [HR.out]; rfl, HB3.out⟩
            · have HR : Hid (unq u.data.toList = none) := by
                show _ = _
                rw [HU0.out, unq_short (by rw [List.length_drop]; have : u.data.toList.length = u.size := Array.length_toList; omega)]; rfl
              go_wp2_with fail
              go_ret2
              exact ⟨by rw [HR.out]; rfl, HB1.out⟩
          · have t92 : ((u[pos].toNat : Int) == 92) = false := by
              rw [beq_eq_false_iff_ne]; intro e; exact h92 (UInt8.toNat_inj.1 (by simp; omega))
            have HP := Lib.hid (fun w => plain_any (u[pos].toNat : Int) w)
            cases hp : plainB (u[pos].toNat : Int)
            · have HR : Hid (unq u.data.toList = none) := by show _ = _; rw [HU0.out, unq_bad h92 hp]; rfl
              rw [hp] at HP
              clear hp h92 HU0
              by_cases h126 : 126 < u[pos].toNat
              · go_wp2_with fail
                go_ret2
                exact ⟨by rw [HR.out]; rfl, HB1.out⟩
              · go_wp2_with fail
                refine (HP.out _).mono ?_
                rintro e w' ⟨rfl, rfl⟩
                go_wp2_with fail
                go_ret2
                exact ⟨by rw [HR.out]; rfl, HB1.out⟩
            · have HR : Hid (unq u.data.toList = (unq (u.data.toList.drop (pos + 1))).map ((acc ++ [u[pos]]) ++ ·)) := by show _ = _; rw [HU0.out, unq_plain h92 hp, map_snoc]
              have h126 : u[pos].toNat ≤ 126 := by unfold plainB at hp; simp at hp; omega
              rw [hp] at HP
              clear hp h92 HU0
              go_wp2_with fail
              refine (HP.out _).mono ?_
              rintro e w' ⟨rfl, rfl⟩
              go_wp2_with (at_builtin; go_must (refine wpList_append_new rfl _ _ 63 rfl 5 (.int .u8 0) 1 Tryd.underlying63 info5 rfl (w.heap.size + 1) u4 _ _ rfl HO1.out #[.int .u8 (u[pos].toNat : Int)] _ rfl rfl (by simp [Value.oneCell']) (by simp; omega) (by simp [maxLen]; omega) (by have := (Array.getElem?_eq_some_iff.1 HI1.out).1; omega) ?_))
              intro v3 w3 hown3 hg3
              have HO3 := Lib.hid hown3
              have HB3 : Hid (Below w.heap.size w w3) := Below.grown HB1.out hg3 HB1.out.size (fun k hk => by have := (World.ownsRow.lt HO1.out k hk).1; omega)
              have HI3 : Hid (w3.heap[w.heap.size]? = some (.stringIter u (pos + 1))) := by
                show _ = _
                rw [hg3.block _ (Array.getElem?_eq_some_iff.1 HI1.out).1 (fun e => by have := (World.ownsRow.lt HO1.out _ e.symm).1; omega)]
                exact HI1.out
              clear hown3 hg3
              go_wp2_with fail
              go_roundw
              case rel => exact ⟨pos + 1, 0, acc ++ [u[pos]], by omega, by omega, by simp; omega, rfl, fun j hj h1 h2 => by omega, OwnsBytes.of HO3.out (by rw [bytesV_append]; rfl), HI3.out, HR.out, HB3.out⟩
              case measure => rw [iterPos_of HI3.out, iterPos_of HI.out]; omega
      · have hk0 : k = 0 := by
          rcases Nat.eq_zero_or_pos k with h | h
          · exact h
          · exact absurd (HA.out pos hlt (Nat.le_refl _) (by omega)) hasc
        subst hk0
        have hnx := fun ty => Lib.run_next_any_at (P := Tryd.prog) wr w.heap.size u pos ty HI.out hlt
        have hd := (decode_high u pos hlt (by omega)).1
        obtain ⟨_, _, hB1⟩ := iter_step HO.out HI.out HB.out (pos + (Utf8.decode u pos).2)
        have HB1 := Lib.hid hB1
        have HR : Hid (unq u.data.toList = none) := by
          show _ = _
          have := HU.out
          rw [Nat.add_zero, list_at hlt] at this
          rw [this, unq_bad (fun e => by rw [e] at hasc; exact hasc (by decide)) (by unfold plainB; simp; omega)]
          rfl
        clear hB1 HU HA
        have t92 : (((Utf8.decode u pos).1 : Int) == 92) = false := by rw [beq_eq_false_iff_ne]; omega
        generalize (Utf8.decode u pos).1 = r at *
        generalize (Utf8.decode u pos).2 = wd at *
        have hd2 : 126 < (r : Int) := by omega
        go_wp2_with fail
        go_ret2
        exact ⟨by rw [HR.out]; rfl, HB1.out⟩
    · have hk0 : k = 0 := by omega
      subst hk0
      have hpe : pos = u.size := by omega
      subst hpe
      have hnx := fun ty => Lib.run_next_end_at (P := Tryd.prog) wr w.heap.size u u.size ty HI.out (by omega)
      have HR : Hid (unq u.data.toList = some acc) := by
        show _ = _
        rw [HU.out, List.drop_of_length_le (by have : u.data.toList.length = u.size := Array.length_toList; omega)]
        simp [unq]
      have hcv := string_of_owned HO.out
      go_wp2_with fail
      go_ret2
      exact ⟨by rw [HR.out]; rfl, HB.out⟩

theorem quoted_any (s : ByteArray) (w : World) (hs : s.size ≤ 1000000) (he : Errs w) :
    Calls Tryd.prog 64 #[.string s] w fun e w' => e = .returned (quoRes (quo s.data.toList)) ∧ Below w.heap.size w w' := by
  have hl : s.data.toList.length = s.size := Array.length_toList
  unfold quo
  rw [hl]
  split
  · rename_i h
    exact quoted_not s w hs h
  · rename_i h
    have h' : 2 ≤ s.size ∧ s.data.toList.getD 0 0 = 39 ∧ s.data.toList.getD (s.size - 1) 0 = 39 := by
      simp only [not_or, Decidable.not_not] at h
      exact ⟨by omega, h.2.1, h.2.2⟩
    have hg : ∀ i (hi : i < s.size), s.data.toList.getD i 0 = s[i] := fun i hi => by
      rw [List.getD_eq_getElem?_getD, List.getElem?_eq_getElem (by simpa using hi)]; rfl
    obtain ⟨h2, q0, q1⟩ := h'
    rw [hg 0 (by omega)] at q0
    rw [hg (s.size - 1) (by omega)] at q1
    have e : (s.extract 1 (s.size - 1)).data.toList = (s.data.toList.drop 1).take (s.size - 2) := by
      rw [ByteArray.data_extract, Array.toList_extract, List.extract_eq_take_drop]; congr 1
    rw [← e]
    exact quoted_in s w hs he h2 q0 q1 _ rfl
end Go.Proofs.YtbpnnhdhpahbjaaDoor
