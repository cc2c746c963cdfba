/-
  Plain laws: how long the text of a small script is; comments and empty lines between; acts one by one. No program in sight.
-/
import Derived.Test.YtialgdnkkjmpbaaGreatDoorPlainA
namespace Go.Proofs.YtialgdnkkjmpbaaGreatDoor

theorem dec_short : ∀ (k m : Nat), m < 10 ^ (k + 1) → (Lib.decDigits m).length ≤ k + 1
  | 0, m, h => by rw [dec_small (by simpa using h)]; simp
  | k + 1, m, h => by
    by_cases h1 : m < 10
    · rw [dec_small h1]; simp
    · rw [dec_big h1, List.length_append]
      have h2 : m / 10 < 10 ^ (k + 1) := by
        rw [Nat.pow_succ] at h
        generalize 10 ^ (k + 1) = q at *
        omega
      have := dec_short k (m / 10) h2
      simp; omega
theorem itoa_short {n : Int} (h : isW n = true) : (Lib.itoa n).length ≤ 13 := by
  have h1 := toNat_W h
  have h2 : n.toNat ≤ 1099511627775 := by simp [isW] at h; omega
  rw [← h1, itoa_nat]
  exact dec_short 12 _ (by simp; omega)
theorem pNums_short : ∀ {l : List Int}, (∀ n ∈ l, isW n = true) → (pNums l).length ≤ 14 * l.length
  | [], _ => by simp [pNums]
  | n :: l, h => by
    have h1 := itoa_short (h n (by simp))
    have h2 := pNums_short (l := l) (fun m hm => h m (by simp [hm]))
    have e : pNums (n :: l) = (32 :: Lib.itoa n) ++ pNums l := by simp [pNums]
    rw [e]
    simp; omega
theorem form_short_all : ((List.range 13).all fun k => decide ((formW k).length ≤ 7)) = true := by decide +kernel
theorem form_short (k : Nat) (h : k ≤ 12) : (formW k).length ≤ 7 := by
  have := List.all_eq_true.1 form_short_all k (by simp; omega)
  simpa using this
theorem pAct_short {a : Ac} {m : Nat} (h : a.right = true) (hm : m ≤ 2000) : (pAct a m).length ≤ 56 := by
  have hk := Ac.right_k h
  have h1 := form_short _ hk.2.1
  have hf := (form_fact _ hk.1 hk.2.1).2.2.2.2.1
  have h2 := Ac.nums_W h
  have h3 := pNums_short h2.1
  rw [pAct_len, List.length_append]
  have h4 : starLen m ≤ 7 := by
    unfold starLen
    split
    · rw [dec_len m hm]; split; omega; split; omega; split <;> omega
    · omega
  omega
theorem costL_le (k : Nat) : ∀ {L : List Bytes}, (∀ a ∈ L, a.length + 1 ≤ k) → costL L ≤ k * L.length
  | [], _ => by simp [costL]
  | a :: L, h => by
    have h1 := h a (by simp)
    have h2 := costL_le k (L := L) (fun b hb => h b (by simp [hb]))
    simp only [costL, List.map_cons, List.sum_cons, List.length_cons, Nat.mul_add] at h2 ⊢
    omega
theorem costL_flat {α : Type} (f : α → List Bytes) (k : Nat) : ∀ {l : List α}, (∀ a ∈ l, costL (f a) ≤ k) → costL (l.flatMap f) ≤ k * l.length
  | [], _ => by simp [costL]
  | a :: l, h => by
    have h1 := h a (by simp)
    have h2 := costL_flat f k (l := l) (fun b hb => h b (by simp [hb]))
    rw [List.flatMap_cons, cost_append]
    simp only [List.length_cons, Nat.mul_add]
    omega
theorem runs_len : ∀ l : List Ac, (runs l).length ≤ l.length
  | [] => by simp [runs]
  | a :: l => by
    have ih := runs_len l
    rw [runs]
    split
    · simp
    · rename_i b n r e
      rw [e] at ih
      split
      · simp at ih ⊢; omega
      · simp at ih ⊢; omega
theorem cl_cost {c : Cl} (h : c.formed = true) (hl : ∀ l ∈ c.lines, l.length ≤ 100) : costL c.text ≤ 10321 := by
  simp only [Cl.formed, Bool.and_eq_true, decide_eq_true_eq] at h
  unfold Cl.text
  have h1 := pNums_short (l := [c.tries]) (by simpa using h.1.1)
  obtain ⟨M, hM⟩ : ∃ M : List Bytes, M = c.lines.map fun l => [124, 32] ++ l := ⟨_, rfl⟩
  rw [← hM]
  show costL ([wClient ++ pNums [c.tries]] ++ M) ≤ _
  rw [cost_append, cost_one]
  have h2 := costL_le 103 (L := M) (fun a ha => by
    rw [hM] at ha
    obtain ⟨l, hm, rfl⟩ := List.mem_map.1 ha
    have := hl l hm
    simp; omega)
  rw [show M.length = c.lines.length by rw [hM, List.length_map]] at h2
  rw [List.length_append, show wClient.length = 6 from rfl]
  simp only [List.length_cons, List.length_nil] at h1
  have h3 := h.1.2
  have : 103 * c.lines.length ≤ 103 * 100 := Nat.mul_le_mul_left _ h3
  omega
theorem head_cost {x : Sc} (h : x.formed = true) (hl : ∀ c ∈ x.clients, ∀ l ∈ c.lines, l.length ≤ 100) : costL (headLines x) ≤ 82648 := by
  simp only [Sc.formed, Bool.and_eq_true, decide_eq_true_eq] at h
  obtain ⟨⟨⟨⟨⟨⟨⟨⟨h1, h2⟩, h3⟩, h4⟩, h5⟩, h6⟩, h7⟩, h8⟩, h9⟩ := h
  unfold headLines
  rw [cost_append]
  have e1 := pNums_short (l := [x.lines]) (by simpa using h1)
  have e2 := pNums_short (l := [x.most, x.room, x.delay, x.buckets]) (by simp [h2, h3, h4, h5])
  have e3 := costL_flat Cl.text 10321 (l := x.clients) (fun c hc => cl_cost (List.all_eq_true.1 h8 c hc) (hl c hc))
  have : 10321 * x.clients.length ≤ 10321 * 8 := Nat.mul_le_mul_left _ h6
  simp only [costL, List.map_cons, List.map_nil, List.sum_cons, List.sum_nil, List.length_append, show wLines.length = 5 from rfl, show wSet.length = 3 from rfl, List.length_cons, List.length_nil] at e1 e2 ⊢
  simp only [costL] at e3
  omega
/-- A script whose lines are short has a text. -/
theorem text_short {x : Sc} (h : x.formed = true) (hl : ∀ c ∈ x.clients, ∀ l ∈ c.lines, l.length ≤ 100) : (text x).length ≤ 200000 := by
  have h1 := head_cost h hl
  simp only [Sc.formed, Bool.and_eq_true, decide_eq_true_eq] at h
  have h9 := h.2
  have h7 := h.1.1.2
  have h2 := costL_le 57 (L := (runs x.acts).map fun r => pAct r.1 r.2) (fun a ha => by
    obtain ⟨r, hr, rfl⟩ := List.mem_map.1 ha
    have hm := runs_mem x.acts r hr
    have hs := sum_mem _ r hr
    rw [runs_flat] at hs
    have := pAct_short (m := r.2) (List.all_eq_true.1 h9 _ hm.1) (by omega)
    omega)
  rw [List.length_map] at h2
  have h3 := runs_len x.acts
  have h4 : 57 * (runs x.acts).length ≤ 57 * 2000 := Nat.mul_le_mul_left _ (by omega)
  unfold text textLines
  rw [cost_join, cost_append]
  omega

/-! ### Lines that are read one by one -/
theorem parse_lines {L : List Bytes} {s : Rd} (hn : ∀ a ∈ L, ∀ c ∈ a, c ≠ 10) (hf : feed Rd.start L = .ok s) (hp : 2 ≤ s.ph) (hl : (joinLn L).length ≤ 200000) : parse (joinLn L) = (s.x, 0, 0) := by
  unfold parse
  rw [if_neg (by omega)]
  have := lns_join L [] hn
  rw [List.append_nil] at this
  rw [this, readAll_feed _ _ _ _ _ hf]
  simp only [lns, readAll]
  rw [if_neg (by omega)]
theorem act_plain {a : Ac} (h : a.right = true) : ∀ c ∈ pAct a 1, c ≠ 10 := by
  have hf : ({ Sc.zero with acts := [a] } : Sc).formed = true := by
    simp only [Sc.formed, Sc.zero, List.all_cons, List.all_nil, Bool.and_true, h]
    rfl
  exact text_plain _ hf _ (by simp [textLines, runs])

/-! ### Comments alone (P47.3) -/
def headSc : Sc := ⟨640, 4, 64, 1, 4, [], []⟩
def headText : Bytes := [108, 105, 110, 101, 115, 32, 54, 52, 48, 10, 115, 101, 116, 32, 52, 32, 54, 52, 32, 49, 32, 52, 10]
theorem head_text : headText = joinLn (textLines headSc) := by decide +kernel
theorem head_formed : headSc.formed = true := by decide +kernel
theorem parse_hashes (n : Nat) (h : n ≤ 199976) : parse (headText ++ (List.replicate n 35 ++ [10])) = (headSc, 0, 0) := by
  obtain ⟨ph, o, hp, hf⟩ := feed_text headSc head_formed
  have e : headText ++ (List.replicate n 35 ++ [10]) = joinLn (textLines headSc ++ [List.replicate n 35]) := by rw [join_append, ← head_text]; simp [joinLn]
  rw [e]
  refine parse_lines (s := ⟨ph, o, headSc⟩) ?_ ?_ hp ?_
  · intro a ha
    rcases List.mem_append.1 ha with ha | ha
    · exact text_plain _ head_formed a ha
    · simp only [List.mem_singleton] at ha; subst ha
      intro c hc
      rw [List.mem_replicate] at hc
      rw [hc.2]; decide
  · rw [feed_append _ _ _ _ hf]
    refine feed_skipped _ _ (fun a ha => ?_)
    simp only [List.mem_singleton] at ha; subst ha
    cases n <;> simp [skipped, List.replicate_succ]
  · rw [← e]
    simp [headText]; omega

/-! ### Lines left out (P47.6) -/
/-- Behind each newline what a function gives for its number. -/
def weave (f : Nat → Bytes) : Nat → Bytes → Bytes
  | _, [] => []
  | n, c :: s => if c = 10 then c :: (f (n + 1) ++ weave f (n + 1) s) else c :: weave f n s
def woven (g : Nat → List Bytes) : Nat → List Bytes → List Bytes
  | _, [] => []
  | n, a :: L => a :: (g (n + 1) ++ woven g (n + 1) L)
theorem weave_line (f : Nat → Bytes) : ∀ (a r : Bytes) (n : Nat), (∀ c ∈ a, c ≠ 10) → weave f n (a ++ 10 :: r) = a ++ 10 :: (f (n + 1) ++ weave f (n + 1) r)
  | [], r, n, _ => by simp [weave]
  | c :: a, r, n, h => by
    rw [List.cons_append, weave, if_neg (h c (by simp)), weave_line f a r n (fun d hd => h d (by simp [hd]))]
    rfl
theorem weave_join (f : Nat → Bytes) (g : Nat → List Bytes) (h : ∀ n, f n = joinLn (g n)) : ∀ (L : List Bytes) (n : Nat), (∀ a ∈ L, ∀ c ∈ a, c ≠ 10) → weave f n (joinLn L) = joinLn (woven g n L)
  | [], n, _ => rfl
  | a :: L, n, hn => by
    have e : joinLn (a :: L) = a ++ 10 :: joinLn L := by simp [joinLn]
    have e2 : joinLn (woven g n (a :: L)) = a ++ 10 :: (joinLn (g (n + 1)) ++ joinLn (woven g (n + 1) L)) := by
      rw [woven, show a :: (g (n + 1) ++ woven g (n + 1) L) = [a] ++ (g (n + 1) ++ woven g (n + 1) L) from rfl, join_append, join_append]
      simp [joinLn]
    rw [e, e2, weave_line f a _ n (hn a (by simp)), weave_join f g h L (n + 1) (fun b hb => hn b (by simp [hb])), h]
theorem weave_snoc (f : Nat → Bytes) : ∀ (l : Bytes) (n : Nat) (c : UInt8), weave f n (l ++ [c]) = weave f n l ++ (if c = 10 then c :: f (n + l.count 10 + 1) else [c])
  | [], n, c => by simp [weave]
  | d :: l, n, c => by
    rw [List.cons_append, weave, weave]
    by_cases h : d = 10
    · rw [if_pos h, if_pos h, weave_snoc f l (n + 1) c, h]
      simp only [List.count_cons_self, List.cons_append, List.append_assoc]
      rw [show n + 1 + l.count 10 + 1 = n + (l.count 10 + 1) + 1 by omega]
    · rw [if_neg h, if_neg h, weave_snoc f l n c, List.count_cons_of_ne h]
      rfl
theorem weave_len (f : Nat → Bytes) (k : Nat) (h : ∀ n, (f n).length ≤ k) : ∀ (l : Bytes) (n : Nat), (weave f n l).length ≤ (k + 1) * l.length
  | [], n => by simp [weave]
  | c :: l, n => by
    rw [weave, List.length_cons, Nat.mul_add]
    split
    · have h1 := weave_len f k h l (n + 1)
      have h2 := h (n + 1)
      simp only [List.length_cons, List.length_append]
      omega
    · have h1 := weave_len f k h l n
      simp only [List.length_cons]
      omega
theorem feed_woven (g : Nat → List Bytes) (hg : ∀ n, ∀ a ∈ g n, skipped a = true) : ∀ (L : List Bytes) (n : Nat) (s s' : Rd), feed s L = .ok s' → feed s (woven g n L) = .ok s'
  | [], n, s, s', h => h
  | a :: L, n, s, s', h => by
    simp only [feed, woven] at h ⊢
    cases hr : readAny s a with
    | error e => rw [hr] at h; cases h
    | ok s1 =>
      rw [hr] at h
      simp only at h ⊢
      rw [feed_append _ _ _ _ (feed_skipped _ s1 (hg (n + 1)))]
      exact feed_woven g hg L (n + 1) s1 s' h
def between : List Bytes := [[], [10], [35, 10], [35, 32, 115, 116, 101, 112, 32, 48, 10, 10], [35, 124, 32, 120, 10]]
def betweenL : List (List Bytes) := [[], [[]], [[35]], [[35, 32, 115, 116, 101, 112, 32, 48], []], [[35, 124, 32, 120]]]
def btw (p : Nat) : Bytes := between.getD (p % 5) []
def btwL (p : Nat) : List Bytes := betweenL.getD (p % 5) []
theorem btw_facts (p : Nat) : btw p = joinLn (btwL p) ∧ (∀ a ∈ btwL p, skipped a = true ∧ ∀ c ∈ a, c ≠ 10) ∧ (btw p).length ≤ 10 := by
  unfold btw btwL
  have h : p % 5 = 0 ∨ p % 5 = 1 ∨ p % 5 = 2 ∨ p % 5 = 3 ∨ p % 5 = 4 := by omega
  rcases h with h | h | h | h | h <;> rw [h] <;> decide +kernel
theorem woven_plain (g : Nat → List Bytes) (hg : ∀ n, ∀ a ∈ g n, ∀ c ∈ a, c ≠ 10) : ∀ (L : List Bytes) (n : Nat), (∀ a ∈ L, ∀ c ∈ a, c ≠ 10) → ∀ a ∈ woven g n L, ∀ c ∈ a, c ≠ 10
  | [], n, h => by simp [woven]
  | b :: L, n, h => by
    intro a ha
    rw [woven] at ha
    rcases List.mem_cons.1 ha with rfl | ha
    · exact h a (by simp)
    · rcases List.mem_append.1 ha with ha | ha
      · exact hg _ a ha
      · exact woven_plain g hg L (n + 1) (fun d hd => h d (by simp [hd])) a ha
/-- P47.6: comments and empty lines change nothing. -/
theorem parse_woven (x : Sc) (h : x.formed = true) (p : Nat → Nat) (hl : (text x).length ≤ 6000) :
    parse (btw (p 0) ++ weave (fun n => btw (p n)) 0 (text x)) = (x, 0, 0) := by
  obtain ⟨ph, o, hp, hf⟩ := feed_text x h
  have e : btw (p 0) ++ weave (fun n => btw (p n)) 0 (text x) = joinLn (btwL (p 0) ++ woven (fun n => btwL (p n)) 0 (textLines x)) := by
    rw [join_append, ← (btw_facts (p 0)).1]
    congr 1
    exact weave_join _ _ (fun n => (btw_facts (p n)).1) _ _ (text_plain x h)
  have hlen : (btw (p 0) ++ weave (fun n => btw (p n)) 0 (text x)).length ≤ 200000 := by
    rw [List.length_append]
    have h1 := (btw_facts (p 0)).2.2
    have h2 := weave_len (fun n => btw (p n)) 10 (fun n => (btw_facts (p n)).2.2) (text x) 0
    omega
  rw [e] at hlen ⊢
  refine parse_lines (s := ⟨ph, o, x⟩) ?_ ?_ hp hlen
  · intro a ha
    rcases List.mem_append.1 ha with ha | ha
    · exact ((btw_facts (p 0)).2.1 a ha).2
    · exact woven_plain _ (fun n a ha => ((btw_facts (p n)).2.1 a ha).2) _ _ (text_plain x h) a ha
  · rw [feed_append _ _ _ _ (feed_skipped _ _ (fun a ha => ((btw_facts (p 0)).2.1 a ha).1))]
    exact feed_woven _ (fun n a ha => ((btw_facts (p n)).2.1 a ha).1) _ _ _ _ hf

/-! ### Acts one by one (P47.6) -/
def bare (x : Sc) : Sc := { x with acts := [] }
def oneAct (a : Ac) : Sc := { Sc.zero with acts := [a] }
theorem bare_formed {x : Sc} (h : (bare x).formed = true) (ha : x.acts.all Ac.right = true) (hn : x.acts.length ≤ 2000) : x.formed = true := by
  unfold Sc.formed bare at h
  unfold Sc.formed
  dsimp only at h
  simp only [Bool.and_eq_true, decide_eq_true_eq] at h ⊢
  exact ⟨⟨⟨h.1.1.1, hn⟩, h.1.2⟩, ha⟩
theorem oneAct_formed (a : Ac) : (oneAct a).formed = a.right := by
  simp only [Sc.formed, oneAct, Sc.zero, List.all_cons, List.all_nil, Bool.and_true]
  rfl
theorem zero_text : text Sc.zero = joinLn (headLines Sc.zero) := by simp [text, textLines, Sc.zero, runs]
theorem text_bare (x : Sc) : text (bare x) = joinLn (headLines x) := by simp [text, textLines, bare, runs, headLines]
theorem text_one (a : Ac) : text (oneAct a) = text Sc.zero ++ (pAct a 1 ++ [10]) := by
  rw [zero_text, text, textLines, join_append]
  congr 1
  simp [oneAct, runs, joinLn]
theorem zero_len : (text Sc.zero).length = 20 := by decide +kernel
def actsOut (l : List Ac) : Bytes := l.flatMap fun a => pAct a 1 ++ [10]
theorem actsOut_snoc (l : List Ac) (a : Ac) : actsOut (l ++ [a]) = actsOut l ++ (pAct a 1 ++ [10]) := by simp [actsOut]
theorem actsOut_join (l : List Ac) : actsOut l = joinLn (l.map fun a => pAct a 1) := by simp [actsOut, joinLn, List.flatMap_map]
theorem parse_ones (x : Sc) (h : x.formed = true) (hn : x.acts.length ≤ 60) (hl : ∀ c ∈ x.clients, ∀ l ∈ c.lines, l.length ≤ 100) : parse (text (bare x) ++ actsOut x.acts) = (x, 0, 0) := by
  have hx := h
  have hc0 := head_cost h hl
  simp only [Sc.formed, Bool.and_eq_true, decide_eq_true_eq] at h
  obtain ⟨⟨⟨⟨⟨⟨⟨⟨h1, h2⟩, h3⟩, h4⟩, h5⟩, h6⟩, h7⟩, h8⟩, h9⟩ := h
  rw [text_bare, actsOut_join, ← join_append]
  obtain ⟨o1, hc⟩ := feed_clients x.clients false { Sc.zero with lines := x.lines, most := x.most, room := x.room, delay := x.delay, buckets := x.buckets } h8 (by simp [Sc.zero]; omega)
  have hflat : (x.acts.map fun a => (a, 1)).flatMap (fun r : Ac × Nat => List.replicate r.2 r.1) = x.acts := by
    rw [List.flatMap_map]
    simp
  obtain ⟨ph', hp1, hp2, ha⟩ := feed_acts (x.acts.map fun a => (a, 1)) 2 o1 { Sc.zero with lines := x.lines, most := x.most, room := x.room, delay := x.delay, buckets := x.buckets, clients := x.clients } (by omega)
    (fun r hr => by
      obtain ⟨a, ha, rfl⟩ := List.mem_map.1 hr
      exact ⟨List.all_eq_true.1 h9 a ha, Nat.le_refl _⟩) (by rw [hflat]; simp [Sc.zero]; omega)
  refine parse_lines (s := ⟨ph', o1, x⟩) ?_ ?_ hp1 ?_
  · intro a ha
    rcases List.mem_append.1 ha with ha | ha
    · exact text_plain x hx a (List.mem_append.2 (.inl ha))
    · obtain ⟨b, hb, rfl⟩ := List.mem_map.1 ha
      exact act_plain (List.all_eq_true.1 h9 b hb)
  · have e1 : feed Rd.start [wLines ++ pNums [x.lines], wSet ++ pNums [x.most, x.room, x.delay, x.buckets]] = .ok ⟨2, false, { Sc.zero with lines := x.lines, most := x.most, room := x.room, delay := x.delay, buckets := x.buckets }⟩ := by
      simp only [feed, Rd.start, read_first _ _ _ h1, read_second _ _ _ _ _ _ h2 h3 h4 h5]
    unfold headLines
    rw [List.append_assoc, feed_append _ _ _ _ e1, feed_append _ _ _ _ hc]
    rw [hflat] at ha
    simp only [Sc.zero, List.nil_append, List.map_map] at ha ⊢
    exact ha
  · rw [cost_join, cost_append]
    have := costL_le 57 (L := x.acts.map fun a => pAct a 1) (fun b hb => by
      obtain ⟨a, ha, rfl⟩ := List.mem_map.1 hb
      have := pAct_short (m := 1) (List.all_eq_true.1 h9 a ha) (by omega)
      omega)
    rw [List.length_map] at this
    have h4 : 57 * x.acts.length ≤ 57 * 60 := Nat.mul_le_mul_left _ hn
    omega
end Go.Proofs.YtialgdnkkjmpbaaGreatDoor
