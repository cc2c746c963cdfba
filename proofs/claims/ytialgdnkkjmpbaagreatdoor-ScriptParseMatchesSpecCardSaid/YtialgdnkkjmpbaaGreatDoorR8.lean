/-
  Plain laws: reading line by line as the reference does, which looks at the end of the last line behind all others. No program in sight.
-/
import Derived.Test.YtialgdnkkjmpbaaGreatDoorR7
namespace Go.Proofs.YtialgdnkkjmpbaaGreatDoor

/-- What reading on from line k on ends in. -/
def refTgt (LNS : List (Bytes × Bool)) (rd : Rd) (k : Nat) : Sc × Int × Int :=
  if k = LNS.length ∧ (LNS.getLast?.map (·.2)) = some false then (Sc.zero, (k : Int) - 1, eSyntax) else readAll rd k (LNS.drop k)
structure LnsOk (LNS : List (Bytes × Bool)) : Prop where
  whole : ∀ k p, LNS[k]? = some p → p.2 = false → k + 1 = LNS.length
  plain : ∀ p ∈ LNS, ∀ c ∈ p.1, c ≠ 10
theorem lnsOk (t : Bytes) : LnsOk (lns t) := by
  obtain ⟨L, z, _, h1, h2, h3⟩ := lns_back t
  rw [h3]
  refine ⟨fun k p hp hw => ?_, fun p hp => ?_⟩
  · rcases Nat.lt_or_ge k L.length with hk | hk
    · rw [List.getElem?_append_left (by simpa using hk), List.getElem?_map] at hp
      obtain ⟨a, _, rfl⟩ := Option.map_eq_some_iff.1 hp
      cases hw
    · rw [List.getElem?_append_right (by simpa using hk)] at hp
      split at hp
      · simp at hp
      · rename_i hz
        have := (List.getElem?_eq_some_iff.1 hp).1
        rw [if_neg hz]
        simp at this
        simp; omega
  · rcases List.mem_append.1 hp with hp | hp
    · obtain ⟨a, ha, rfl⟩ := List.mem_map.1 hp
      exact h1 a ha
    · split at hp
      · cases hp
      · simp only [List.mem_singleton] at hp; subst hp; exact h2
theorem refTgt_start (LNS : List (Bytes × Bool)) : refTgt LNS Rd.start 0 = readAll Rd.start 0 LNS := by
  unfold refTgt
  rw [if_neg, List.drop_zero]
  rintro ⟨h1, h2⟩
  have : LNS = [] := List.eq_nil_of_length_eq_zero h1.symm
  rw [this] at h2; cases h2
theorem refTgt_now {LNS : List (Bytes × Bool)} {rd : Rd} {k : Nat} (hk : k < LNS.length) : refTgt LNS rd k = readAll rd k (LNS.drop k) := by
  unfold refTgt; rw [if_neg (by rintro ⟨h, _⟩; omega)]
theorem refTgt_err {LNS : List (Bytes × Bool)} {rd : Rd} {k : Nat} {p : Bytes × Bool} {e : Int} (hk : LNS[k]? = some p) (hr : readAny rd p.1 = .error e) : refTgt LNS rd k = (Sc.zero, (k : Int), e) := by
  obtain ⟨hlt, hg⟩ := List.getElem?_eq_some_iff.1 hk
  rw [refTgt_now hlt, List.drop_eq_getElem_cons hlt, hg]
  obtain ⟨a, b⟩ := p
  simp only [readAll]
  simp only at hr
  rw [hr]
theorem refTgt_step {LNS : List (Bytes × Bool)} (hok : LnsOk LNS) {rd rd' : Rd} {k : Nat} {p : Bytes × Bool} (hk : LNS[k]? = some p) (hr : readAny rd p.1 = .ok rd') : refTgt LNS rd k = refTgt LNS rd' (k + 1) := by
  obtain ⟨hlt, hg⟩ := List.getElem?_eq_some_iff.1 hk
  have hw := hok.whole k p hk
  rw [refTgt_now hlt, List.drop_eq_getElem_cons hlt, hg]
  obtain ⟨a, b⟩ := p
  simp only at hr hw
  simp only [readAll, hr]
  cases b with
  | true =>
    rw [if_pos rfl]
    unfold refTgt
    rw [if_neg]
    rintro ⟨h1, h2⟩
    rw [List.getLast?_eq_getElem?, show LNS.length - 1 = k by omega, hk] at h2
    cases h2
  | false =>
    rw [if_neg (by simp)]
    unfold refTgt
    have hl := hw rfl
    rw [if_pos ⟨hl, by rw [List.getLast?_eq_getElem?, show LNS.length - 1 = k by omega, hk]; rfl⟩]
    congr 2
    omega
/-- At the end. -/
theorem refTgt_cut {LNS : List (Bytes × Bool)} {rd : Rd} {a : Bytes} (h : LNS.getLast? = some (a, false)) : refTgt LNS rd LNS.length = (Sc.zero, ((LNS.length - 1 : Nat) : Int), eSyntax) := by
  unfold refTgt
  rw [if_pos ⟨rfl, by rw [h]; rfl⟩]
  have : 0 < LNS.length := by cases LNS with | nil => cases h | cons _ _ => simp
  congr 2
  omega
theorem refTgt_end {LNS : List (Bytes × Bool)} {rd : Rd} (h : LNS.getLast?.map (·.2) ≠ some false) : refTgt LNS rd LNS.length = if rd.ph < 2 then (Sc.zero, (LNS.length : Int), eSyntax) else (rd.x, 0, 0) := by
  unfold refTgt
  rw [if_neg (fun k => h k.2), List.drop_of_length_le (Nat.le_refl _)]
  rfl
theorem actLine_some {hv : Nat} {ps : List Bytes} {l : List Ac} (h : actLine hv ps = .ok l) : l ≠ [] := by
  unfold actLine at h
  split at h
  · cases h
  · unfold actRest at h
    dsimp only at h
    repeat' split at h
    all_goals (first | (cases h; done) | skip)
    all_goals
      simp only [Except.ok.injEq] at h
      subst h
      simp only [ne_eq, List.replicate_eq_nil_iff]
      assumption
theorem acts_late {s s' : Rd} {a : Bytes} (hr : readAny s a = .ok s') (h : s.ph = 3 → s.x.acts ≠ []) : s'.ph = 3 → s'.x.acts ≠ [] := by
  unfold readAny at hr
  split at hr
  · simp only [Except.ok.injEq] at hr; subst hr; exact h
  have key : ∀ {ps : List Bytes} {q : Rd}, rdActs s ps = .ok q → q.x.acts ≠ [] := by
    intro ps q hq
    unfold rdActs at hq
    cases hl : actLine s.x.acts.length ps with
    | error e => rw [hl] at hq; cases hq
    | ok l =>
      rw [hl] at hq
      simp only [Except.ok.injEq] at hq
      subst hq
      have := actLine_some hl
      simp [this]
  unfold readLn at hr
  split at hr
  · simp only [rdFirst] at hr
    repeat' split at hr
    all_goals (first | (cases hr; done) | (simp only [Except.ok.injEq] at hr; subst hr; intro h3; simp at h3))
  · simp only [rdSecond] at hr
    repeat' split at hr
    all_goals (first | (cases hr; done) | (simp only [Except.ok.injEq] at hr; subst hr; intro h3; simp at h3))
  · rename_i hp
    unfold rdClients at hr
    split at hr
    · split at hr
      · cases hr
      · simp only [Except.ok.injEq] at hr; subst hr; intro h3; simp only at h3; omega
    · split at hr
      · cases hq : rdActs s (pts a) with
        | error e => rw [hq] at hr; cases hr
        | ok q =>
          rw [hq] at hr
          simp only [Except.ok.injEq] at hr
          subst hr
          intro _
          exact (key hq :)
      · unfold rdClient at hr
        repeat' split at hr
        all_goals (first | (cases hr; done) | (simp only [Except.ok.injEq] at hr; subst hr; intro h3; simp only at h3; omega))
  · intro _
    exact key hr
end Go.Proofs.YtialgdnkkjmpbaaGreatDoor
