/-
  Plain definitions: scripts of machines, their texts, how a text is read line by line. No program in sight.
-/
import Derived.Lib.ItoaNum
import Derived.Lib.AtoiAll
import Derived.Lib.Split
import Derived.Lib.SplitLaws
namespace Go.Proofs.YtialgdnkkjmpbaaGreatDoor

abbrev Bytes := List UInt8
structure Cl where
  tries : Int
  lines : List Bytes
  deriving DecidableEq
structure Ac where
  k : Int
  a : Int
  b : Int
  c : Int
  deriving DecidableEq
structure Sc where
  lines : Int
  most : Int
  room : Int
  delay : Int
  buckets : Int
  clients : List Cl
  acts : List Ac
  deriving DecidableEq
def Sc.zero : Sc := ⟨0, 0, 0, 0, 0, [], []⟩

/-- The words of the kinds of acts, from 1 on, and how many numbers they have. -/
def forms : List (Bytes × Nat) :=
  [([], 0), ([115, 116, 101, 112], 1), ([116, 105, 99, 107], 0), ([102, 108, 117, 115, 104], 0), ([101, 118, 105, 99, 116], 2), ([102, 97, 105, 108], 1), ([98, 114, 101, 97, 107], 2),
   ([114, 111, 116], 3), ([115, 99, 114, 117, 98], 0), ([116, 105, 100, 121], 0), ([108, 101, 118, 101, 108], 0), ([99, 111, 109, 112, 97, 99, 116], 0), ([115, 101, 101], 0)]
def formW (k : Nat) : Bytes := (forms.getD k ([], 0)).1
def formN (k : Nat) : Nat := (forms.getD k ([], 0)).2
/-- The first kind from k on among some forms that has a word. -/
def kindFrom (p : Bytes) : Nat → List (Bytes × Nat) → Option Nat
  | _, [] => none
  | k, f :: l => if f.1 = p ∧ f.1 ≠ [] then some k else kindFrom p (k + 1) l
def kindOf (p : Bytes) : Option Nat := kindFrom p 0 forms

/-- The lines of a text, each with whether it ends with a newline. -/
def lns : Bytes → List (Bytes × Bool)
  | [] => []
  | c :: l => if c = 10 then ([], true) :: lns l else match lns l with
    | [] => [([c], false)]
    | (a, b) :: r => (c :: a, b) :: r
/-- The parts of a line between single spaces. -/
def pts : Bytes → List Bytes
  | [] => [[]]
  | c :: l => if c = 32 then [] :: pts l else match pts l with
    | [] => [[c]]
    | a :: r => (c :: a) :: r

def maxWord : Nat := 1099511627775
/-- The number that digits are, going on from n. -/
def digs : Nat → Bytes → Option Nat
  | n, [] => some n
  | n, c :: l => if 48 ≤ c.toNat ∧ c.toNat ≤ 57 ∧ n ≤ maxWord then digs (n * 10 + (c.toNat - 48)) l else none
/-- The number that a part is. -/
def num (s : Bytes) : Option Nat :=
  match s with
  | [] => none
  | c :: r => match digs 0 (c :: r) with
    | none => none
    | some n => if n ≤ maxWord ∧ (c ≠ 48 ∨ r = []) then some n else none
def nums : List Bytes → Option (List Nat)
  | [] => some []
  | p :: l => match num p with
    | none => none
    | some n => (nums l).map (n :: ·)

/-- What has been read: phase 0 the first line is to come, 1 the second, 2 clients, 3 acts; whether lines can be added to the last client; the script. -/
structure Rd where
  ph : Nat
  opn : Bool
  x : Sc
  deriving DecidableEq
def Rd.start : Rd := ⟨0, false, Sc.zero⟩

def eLimit : Int := 2
def eForm : Int := 3
def eSyntax : Int := 380
def eNumber : Int := 381

def wLines : Bytes := [108, 105, 110, 101, 115]
def wSet : Bytes := [115, 101, 116]
def wClient : Bytes := [99, 108, 105, 101, 110, 116]

/-- The acts that a line of acts adds, by its kind and the parts behind the word, and by how many there are already. -/
def actRest (have_ k : Nat) (ps : List Bytes) : Except Int (List Ac) :=
  let n := formN k
  let many := ps.length = n + 2 ∧ ps.getD n [] = [42]
  let times := if many then ps.getD (n + 1) [] else [49]
  let qs := if many then ps.take n else ps
  if qs.length ≠ n then .error eSyntax else
  match nums (qs ++ [times]) with
  | none => .error eNumber
  | some l =>
    let m := l.getD n 0
    if m = 0 then .error eNumber else
    if 2000 < m + have_ then .error eLimit else
    let v := l.take n ++ [0, 0, 0]
    .ok (List.replicate m ⟨k, v.getD 0 0, v.getD 1 0, v.getD 2 0⟩)
def actLine (have_ : Nat) (parts : List Bytes) : Except Int (List Ac) :=
  match kindOf (parts.headD []) with
  | none => .error eSyntax
  | some k => actRest have_ k parts.tail

def addLine (l : List Cl) (t : Bytes) : List Cl :=
  match l with
  | [] => []
  | [c] => [⟨c.tries, c.lines ++ [t]⟩]
  | c :: d :: r => c :: addLine (d :: r) t
def lastLines (l : List Cl) : List Bytes := (l.getLast?.map (·.lines)).getD []

/-- The first line. -/
def rdFirst (s : Rd) (parts : List Bytes) : Except Int Rd :=
  if parts.headD [] ≠ wLines ∨ parts.length ≠ 2 then .error eSyntax else
  match nums parts.tail with
  | none => .error eNumber
  | some l => .ok { s with ph := 1, x := { s.x with lines := l.getD 0 0 } }
/-- The second line. -/
def rdSecond (s : Rd) (parts : List Bytes) : Except Int Rd :=
  if parts.headD [] ≠ wSet ∨ parts.length ≠ 5 then .error eSyntax else
  match nums parts.tail with
  | none => .error eNumber
  | some l => .ok { s with ph := 2, x := { s.x with most := l.getD 0 0, room := l.getD 1 0, delay := l.getD 2 0, buckets := l.getD 3 0 } }
/-- A line of acts. -/
def rdActs (s : Rd) (parts : List Bytes) : Except Int Rd :=
  match actLine s.x.acts.length parts with
  | .error e => .error e
  | .ok l => .ok { s with x := { s.x with acts := s.x.acts ++ l } }
/-- A first line of a client. -/
def rdClient (s : Rd) (parts : List Bytes) : Except Int Rd :=
  if parts.length ≠ 2 then .error eSyntax else
  match nums parts.tail with
  | none => .error eNumber
  | some l => if s.x.clients.length = 8 then .error eLimit else .ok { s with opn := true, x := { s.x with clients := s.x.clients ++ [⟨l.getD 0 0, []⟩] } }
/-- A line of a client, or the first one of acts. -/
def rdClients (s : Rd) (line : Bytes) (parts : List Bytes) : Except Int Rd :=
  if line.take 2 = [124, 32] ∧ s.opn = true then
    if (lastLines s.x.clients).length = 100 then .error eLimit else .ok { s with x := { s.x with clients := addLine s.x.clients (line.drop 2) } }
  else if parts.headD [] ≠ wClient then
    match rdActs s parts with
    | .error e => .error e
    | .ok s' => .ok { s' with ph := 3 }
  else rdClient s parts
/-- One line that is neither empty nor a comment. -/
def readLn (s : Rd) (line : Bytes) : Except Int Rd :=
  match s.ph with
  | 0 => rdFirst s (pts line)
  | 1 => rdSecond s (pts line)
  | 2 => rdClients s line (pts line)
  | _ => rdActs s (pts line)

/-- A line that is left out. -/
def skipped (line : Bytes) : Bool := match line with
  | [] => true
  | c :: _ => c == 35
def readAny (s : Rd) (line : Bytes) : Except Int Rd := if skipped line then .ok s else readLn s line
/-- All lines, from number n on: the script, and the problem: its line and its error. -/
def readAll : Rd → Nat → List (Bytes × Bool) → Sc × Int × Int
  | s, n, [] => if s.ph < 2 then (Sc.zero, n, eSyntax) else (s.x, 0, 0)
  | s, n, (line, whole) :: r => match readAny s line with
    | .error e => (Sc.zero, n, e)
    | .ok s' => if whole = true then readAll s' (n + 1) r else (Sc.zero, n, eSyntax)
def parse (t : Bytes) : Sc × Int × Int := if 200000 < t.length then (Sc.zero, 0, eLimit) else readAll Rd.start 0 (lns t)

def isW (n : Int) : Bool := decide (0 ≤ n) && decide (n ≤ 1099511627775)
def Ac.right (a : Ac) : Bool :=
  decide (1 ≤ a.k) && decide (a.k ≤ 12) && isW a.a && isW a.b && isW a.c && ([a.a, a.b, a.c].drop (formN a.k.toNat)).all (· == 0)
def Cl.formed (c : Cl) : Bool := isW c.tries && decide (c.lines.length ≤ 100) && c.lines.all fun l => !l.contains 10
def Sc.formed (x : Sc) : Bool :=
  isW x.lines && isW x.most && isW x.room && isW x.delay && isW x.buckets && decide (x.clients.length ≤ 8) && decide (x.acts.length ≤ 2000) && x.clients.all Cl.formed && x.acts.all Ac.right

def pNums (l : List Int) : Bytes := l.flatMap fun n => 32 :: Lib.itoa n
def Ac.nums (a : Ac) : List Int := [a.a, a.b, a.c].take (formN a.k.toNat)
def pAct (a : Ac) (n : Nat) : Bytes := formW a.k.toNat ++ pNums a.nums ++ if 1 < n then [32, 42] ++ pNums [n] else []
/-- How many of the first acts are equal to one. -/
def runLen (a : Ac) : List Ac → Nat
  | [] => 0
  | b :: l => if b = a then runLen a l + 1 else 0
/-- Runs of equal acts. -/
def runs : List Ac → List (Ac × Nat)
  | [] => []
  | a :: l => match runs l with
    | [] => [(a, 1)]
    | (b, n) :: r => if b = a then (a, n + 1) :: r else (a, 1) :: (b, n) :: r
def Cl.text (c : Cl) : List Bytes := (wClient ++ pNums [c.tries]) :: c.lines.map fun l => [124, 32] ++ l
def headLines (x : Sc) : List Bytes := [wLines ++ pNums [x.lines], wSet ++ pNums [x.most, x.room, x.delay, x.buckets]] ++ x.clients.flatMap Cl.text
def textLines (x : Sc) : List Bytes := headLines x ++ (runs x.acts).map fun r => pAct r.1 r.2
def joinLn (l : List Bytes) : Bytes := l.flatMap (· ++ [10])
def text (x : Sc) : Bytes := joinLn (textLines x)
/-- What Print answers. -/
def printed (x : Sc) : Bytes × Int := if x.formed = true then (if 200000 < (text x).length then ([], eLimit) else (text x, 0)) else ([], eForm)

/-! ### The example -/
def exText : Bytes := [108,105,110,101,115,32,54,52,48,10,115,101,116,32,52,32,54,52,32,49,32,52,10,99,108,105,101,110,116,32,50,10,124,32,98,101,103,105,110,10,124,32,99,111,109,109,105,116,10,115,116,101,112,32,48,32,42,32,51,10,114,111,116,32,57,32,49,32,50,10,102,97,105,108,32,55,10]
def exSc : Sc := ⟨640, 4, 64, 1, 4, [⟨2, [[98,101,103,105,110], [99,111,109,109,105,116]]⟩], [⟨1, 0, 0, 0⟩, ⟨1, 0, 0, 0⟩, ⟨1, 0, 0, 0⟩, ⟨7, 9, 1, 2⟩, ⟨5, 7, 0, 0⟩]⟩
theorem ex_parse : parse exText = (exSc, 0, 0) := by decide +kernel
theorem ex_print : printed exSc = (exText, 0) := by decide +kernel
end Go.Proofs.YtialgdnkkjmpbaaGreatDoor

/-
  Plain laws: numbers as parts of lines; lines of texts; parts of lines. No program in sight.
-/
namespace Go.Proofs.YtialgdnkkjmpbaaGreatDoor

theorem digB (d : Nat) (h : d < 10) : (UInt8.ofNat (48 + d)).toNat = 48 + d := by simp; omega
theorem decDigits_all (m : Nat) : ∀ c ∈ Lib.decDigits m, 48 ≤ c.toNat ∧ c.toNat ≤ 57 := by
  induction m using Nat.strongRecOn with
  | _ m ih =>
    rw [Lib.decDigits]
    split
    · rename_i h
      intro c hc
      simp only [List.mem_singleton] at hc
      subst hc
      rw [digB _ h]
      omega
    · rename_i h
      intro c hc
      rcases List.mem_append.1 hc with hc | hc
      · exact ih (m / 10) (by omega) c hc
      · simp only [List.mem_singleton] at hc
        subst hc
        rw [digB _ (by omega)]
        omega
theorem decDigits_ne (m : Nat) : Lib.decDigits m ≠ [] := by
  rw [Lib.decDigits]; split <;> simp
theorem parseUint10_dec (m : Nat) : m ≤ 1000000000000000 → ∀ r, Lib.parseUint10 0 (Lib.decDigits m ++ r) = Lib.parseUint10 m r := by
  induction m using Nat.strongRecOn with
  | _ m ih =>
    intro hm r
    rw [Lib.decDigits]
    split
    · rename_i h
      simp only [List.cons_append, List.nil_append, Lib.parseUint10, digB m h]
      rw [if_pos (by omega), if_neg (by omega), if_neg (by omega)]
      congr 1
      omega
    · rename_i h
      rw [List.append_assoc, ih (m / 10) (by omega) (by omega)]
      simp only [List.cons_append, List.nil_append, Lib.parseUint10, digB (m % 10) (by omega)]
      rw [if_pos (by omega), if_neg (by omega), if_neg (by omega)]
      congr 1
      omega
theorem parseMag_dec (m : Nat) (h : m ≤ 1000000000000000) : Lib.parseMag (Lib.decDigits m) = .ok m := by
  unfold Lib.parseMag
  rw [if_neg (decDigits_ne m)]
  have := parseUint10_dec m h []
  rw [List.append_nil] at this
  rw [this]; rfl
theorem itoa_nat (n : Nat) : Lib.itoa (n : Int) = Lib.decDigits n := by
  unfold Lib.itoa
  rw [if_neg (by omega)]; rfl
theorem atoiAll_dec (n : Nat) (h1 : n ≤ 1000000000000000) : Lib.atoiAll (Lib.decDigits n) = .ok (n : Int) := by
  have hm : Lib.parseMag (Lib.decDigits n) = .ok n := parseMag_dec _ (by omega)
  cases hd : Lib.decDigits n with
  | nil => exact absurd hd (decDigits_ne _)
  | cons c r =>
    have hc := decDigits_all n c (by rw [hd]; simp)
    rw [hd] at hm
    simp only [Lib.atoiAll]
    rw [if_neg (by omega), hm]
    simp only
    rw [if_neg (fun h => by omega), if_neg (fun h => by omega), if_neg (by omega)]
/-- A digit is neither a space, a newline, a sign nor a star. -/
theorem dec_plain (m : Nat) (c : UInt8) (h : c ∈ Lib.decDigits m) : c ≠ 32 ∧ c ≠ 10 := by
  have := decDigits_all m c h
  refine ⟨?_, ?_⟩ <;> (rintro rfl; revert this; decide)

theorem digs_dec (m : Nat) : m ≤ maxWord * 10 → ∀ r, digs 0 (Lib.decDigits m ++ r) = digs m r := by
  unfold maxWord
  induction m using Nat.strongRecOn with
  | _ m ih =>
    intro hm r
    rw [Lib.decDigits]
    split
    · rename_i h
      simp only [List.cons_append, List.nil_append, digs, digB m h, maxWord]
      rw [if_pos (by omega)]
      congr 1
      omega
    · rename_i h
      rw [List.append_assoc, ih (m / 10) (by omega) (by omega)]
      simp only [List.cons_append, List.nil_append, digs, digB (m % 10) (by omega), maxWord]
      rw [if_pos (by omega)]
      congr 1
      omega
theorem dec_small {d : Nat} (h : d < 10) : Lib.decDigits d = [UInt8.ofNat (48 + d)] := by rw [Lib.decDigits, dif_pos h]
theorem dec_big {m : Nat} (h : ¬ m < 10) : Lib.decDigits m = Lib.decDigits (m / 10) ++ [UInt8.ofNat (48 + m % 10)] := by rw [Lib.decDigits, dif_neg h]
theorem dec_head (m : Nat) : ∃ c r, Lib.decDigits m = c :: r ∧ (c ≠ 48 ∨ r = []) := by
  induction m using Nat.strongRecOn with
  | _ m ih =>
    by_cases h : m < 10
    · exact ⟨_, [], dec_small h, .inr rfl⟩
    · obtain ⟨c, r, e, hc⟩ := ih (m / 10) (by omega)
      rw [dec_big h, e]
      refine ⟨c, r ++ [UInt8.ofNat (48 + m % 10)], rfl, .inl ?_⟩
      rcases hc with hc | hc
      · exact hc
      · subst hc
        rintro rfl
        have h1 : m / 10 ≠ 0 := by omega
        by_cases h2 : m / 10 < 10
        · rw [dec_small h2] at e
          simp only [List.cons.injEq, and_true] at e
          have := congrArg UInt8.toNat e
          rw [digB _ h2] at this
          have h48 : (48 : UInt8).toNat = 48 := by decide
          omega
        · rw [dec_big h2] at e
          have := congrArg List.length e
          simp at this
          exact decDigits_ne _ this
theorem num_dec (n : Nat) (h : n ≤ maxWord) : num (Lib.decDigits n) = some n := by
  obtain ⟨c, r, e, hc⟩ := dec_head n
  have hd := digs_dec n (by unfold maxWord at *; omega) []
  rw [List.append_nil] at hd
  unfold num
  rw [e] at hd ⊢
  simp only [hd]
  rw [show digs n [] = some n from rfl]
  simp only
  rw [if_pos ⟨h, hc⟩]
theorem digit_of {c : UInt8} (h1 : 48 ≤ c.toNat) : UInt8.ofNat (48 + (c.toNat - 48)) = c := by
  rw [show 48 + (c.toNat - 48) = c.toNat by omega]; simp
theorem digs_back : ∀ (s : Bytes) (acc n : Nat), acc ≠ 0 → digs acc s = some n → Lib.decDigits n = Lib.decDigits acc ++ s
  | [], acc, n, _, h => by
    simp only [digs, Option.some.injEq] at h
    subst h; simp
  | c :: l, acc, n, h0, h => by
    simp only [digs] at h
    split at h
    · rename_i hc
      have ih := digs_back l _ n (by omega) h
      rw [ih, dec_big (by omega), show (acc * 10 + (c.toNat - 48)) / 10 = acc by omega, show (acc * 10 + (c.toNat - 48)) % 10 = c.toNat - 48 by omega, digit_of hc.1]
      simp
    · cases h
theorem num_back {s : Bytes} {n : Nat} (h : num s = some n) : s = Lib.decDigits n ∧ n ≤ maxWord := by
  unfold num at h
  cases s with
  | nil => cases h
  | cons c r =>
    simp only at h
    cases hd : digs 0 (c :: r) with
    | none => rw [hd] at h; cases h
    | some m =>
      rw [hd] at h
      simp only at h
      split at h
      · rename_i hc
        simp only [Option.some.injEq] at h
        subst h
        refine ⟨?_, hc.1⟩
        simp only [digs, Nat.zero_mul, Nat.zero_add] at hd
        split at hd
        · rename_i hc2
          by_cases h0 : c.toNat - 48 = 0
          · have hr : r = [] := by
              rcases hc.2 with h1 | h1
              · exfalso; apply h1; rw [← digit_of hc2.1, h0]; decide
              · exact h1
            subst hr
            rw [h0] at hd
            simp only [digs, Option.some.injEq] at hd
            subst hd
            rw [dec_small (by decide), ← digit_of hc2.1, h0]
          · have := digs_back r _ _ h0 hd
            rw [this, dec_small (by omega), digit_of hc2.1]
            rfl
        · cases hd
      · cases h
theorem num_itoa {n : Int} (h : isW n = true) : num (Lib.itoa n) = some n.toNat := by
  simp only [isW, Bool.and_eq_true, decide_eq_true_eq] at h
  obtain ⟨m, rfl⟩ : ∃ m : Nat, n = m := ⟨n.toNat, by omega⟩
  rw [itoa_nat]
  exact num_dec m (by unfold maxWord; omega)
/-- What strconv.Atoi and strconv.Itoa tell of a part. -/
theorem num_atoi (s : Bytes) : (∃ n : Nat, num s = some n ∧ Lib.atoiAll s = .ok (n : Int) ∧ isW n = true ∧ Lib.itoa (n : Int) = s) ∨
    (num s = none ∧ ∀ v, Lib.atoiAll s = .ok v → (isW v && decide (Lib.itoa v = s)) = false) := by
  cases h : num s with
  | some n =>
    obtain ⟨hs, hn⟩ := num_back h
    refine .inl ⟨n, rfl, ?_, ?_, by rw [itoa_nat, hs]⟩
    · rw [hs]; exact atoiAll_dec n (by unfold maxWord at hn; omega)
    · simp only [isW, Bool.and_eq_true, decide_eq_true_eq]; unfold maxWord at hn; omega
  | none =>
    refine .inr ⟨rfl, fun v hv => ?_⟩
    cases hb : isW v && decide (Lib.itoa v = s) with
    | false => rfl
    | true =>
      simp only [Bool.and_eq_true, decide_eq_true_eq] at hb
      have := num_itoa hb.1
      rw [hb.2, h] at this
      cases this

/-! ### Parts -/
theorem pts_ne (l : Bytes) : pts l ≠ [] := by
  cases l with
  | nil => simp [pts]
  | cons c l =>
    simp only [pts]
    split
    · simp
    · split <;> simp
theorem pts_plain : ∀ (a : Bytes), (∀ c ∈ a, c ≠ 32) → pts a = [a]
  | [], _ => rfl
  | c :: l, h => by
    simp only [pts]
    rw [if_neg (h c (by simp)), pts_plain l (fun d hd => h d (by simp [hd]))]
theorem pts_cut : ∀ (a r : Bytes), (∀ c ∈ a, c ≠ 32) → pts (a ++ 32 :: r) = a :: pts r
  | [], r, _ => by simp [pts]
  | c :: l, r, h => by
    simp only [List.cons_append, pts]
    rw [if_neg (h c (by simp)), pts_cut l r (fun d hd => h d (by simp [hd]))]
def unpts : List Bytes → Bytes
  | [] => []
  | [a] => a
  | a :: b :: r => a ++ 32 :: unpts (b :: r)
theorem unpts_pts : ∀ l : Bytes, unpts (pts l) = l
  | [] => rfl
  | c :: l => by
    have ih := unpts_pts l
    simp only [pts]
    split
    · rename_i hc
      subst hc
      cases hp : pts l with
      | nil => exact absurd hp (pts_ne l)
      | cons a r => rw [hp] at ih; simp only [unpts, List.nil_append, ih]
    · cases hp : pts l with
      | nil => exact absurd hp (pts_ne l)
      | cons a r =>
        rw [hp] at ih
        cases r with
        | nil => simp only [unpts] at ih ⊢; rw [ih]
        | cons b r => simp only [unpts, List.cons_append] at ih ⊢; rw [ih]
theorem itoa_plain {n : Int} (h : 0 ≤ n) : ∀ c ∈ Lib.itoa n, c ≠ 32 ∧ c ≠ 10 := by
  obtain ⟨m, rfl⟩ : ∃ m : Nat, n = m := ⟨n.toNat, by omega⟩
  rw [itoa_nat]
  exact dec_plain m
theorem isW_nonneg {n : Int} (h : isW n = true) : 0 ≤ n := by simp [isW] at h; omega
theorem pts_nums : ∀ (w : Bytes) (l : List Int), (∀ c ∈ w, c ≠ 32) → (∀ n ∈ l, isW n = true) → pts (w ++ pNums l) = w :: l.map Lib.itoa
  | w, [], hw, _ => by simp [pNums, pts_plain w hw]
  | w, n :: l, hw, hl => by
    have e : pNums (n :: l) = 32 :: (Lib.itoa n ++ pNums l) := by simp [pNums]
    rw [e, pts_cut w _ hw, pts_nums (Lib.itoa n) l (fun c hc => (itoa_plain (isW_nonneg (hl n (by simp))) c hc).1) (fun m hm => hl m (by simp [hm]))]
    rfl
theorem nums_itoa : ∀ (l : List Int), (∀ n ∈ l, isW n = true) → nums (l.map Lib.itoa) = some (l.map Int.toNat)
  | [], _ => rfl
  | n :: l, h => by
    simp only [List.map_cons, nums, num_itoa (h n (by simp)), nums_itoa l (fun m hm => h m (by simp [hm]))]
    rfl
theorem nums_back : ∀ {ps : List Bytes} {l : List Nat}, nums ps = some l → ps = l.map (fun n : Nat => Lib.itoa (n : Int)) ∧ ∀ n ∈ l, n ≤ maxWord
  | [], l, h => by simp only [nums, Option.some.injEq] at h; subst h; simp
  | p :: ps, l, h => by
    simp only [nums] at h
    cases hn : num p with
    | none => rw [hn] at h; cases h
    | some n =>
      rw [hn] at h
      simp only [Option.map_eq_some_iff] at h
      obtain ⟨l', hl', rfl⟩ := h
      obtain ⟨h1, h2⟩ := nums_back hl'
      obtain ⟨h3, h4⟩ := num_back hn
      refine ⟨by rw [List.map_cons, ← h1, itoa_nat, ← h3], ?_⟩
      intro m hm
      rcases List.mem_cons.1 hm with rfl | hm
      · exact h4
      · exact h2 m hm
theorem nums_length {ps : List Bytes} {l : List Nat} (h : nums ps = some l) : l.length = ps.length := by rw [(nums_back h).1]; simp
theorem unpts_nums : ∀ (w : Bytes) (l : List Int), unpts (w :: l.map Lib.itoa) = w ++ pNums l
  | w, [] => by simp [unpts, pNums]
  | w, n :: l => by
    simp only [List.map_cons, unpts, unpts_nums (Lib.itoa n) l]
    simp [pNums]

/-! ### Lines -/
theorem lns_plain : ∀ (a : Bytes), a ≠ [] → (∀ c ∈ a, c ≠ 10) → lns a = [(a, false)]
  | [], h, _ => absurd rfl h
  | [c], _, h => by simp [lns, h c (by simp)]
  | c :: d :: l, _, h => by
    rw [lns, if_neg (h c (by simp)), lns_plain (d :: l) (by simp) (fun x hx => h x (by simp [hx]))]
theorem lns_cut : ∀ (a r : Bytes), (∀ c ∈ a, c ≠ 10) → lns (a ++ 10 :: r) = (a, true) :: lns r
  | [], r, _ => by simp [lns]
  | c :: l, r, h => by
    simp only [List.cons_append, lns]
    rw [if_neg (h c (by simp)), lns_cut l r (fun d hd => h d (by simp [hd]))]
theorem lns_join : ∀ (L : List Bytes) (r : Bytes), (∀ a ∈ L, ∀ c ∈ a, c ≠ 10) → lns (joinLn L ++ r) = L.map (·, true) ++ lns r
  | [], r, _ => by simp [joinLn]
  | a :: L, r, h => by
    have e : joinLn (a :: L) ++ r = a ++ 10 :: (joinLn L ++ r) := by simp [joinLn]
    rw [e, lns_cut a _ (h a (by simp)), lns_join L r (fun b hb => h b (by simp [hb]))]
    rfl
/-- A text is its lines, each with its newline, and a last one without, or none. -/
theorem lns_back : ∀ (s : Bytes), ∃ (L : List Bytes) (z : Bytes), s = joinLn L ++ z ∧ (∀ a ∈ L, ∀ c ∈ a, c ≠ 10) ∧ (∀ c ∈ z, c ≠ 10) ∧ lns s = L.map (·, true) ++ (if z = [] then [] else [(z, false)])
  | [] => ⟨[], [], by simp [joinLn], by simp, by simp, by simp [lns]⟩
  | c :: s => by
    obtain ⟨L, z, h1, h2, h3, h4⟩ := lns_back s
    by_cases hc : c = 10
    · subst hc
      exact ⟨[] :: L, z, by rw [h1]; simp [joinLn], by simpa using h2, h3, by simp only [lns, if_true, h4]; simp⟩
    · cases L with
      | nil =>
        refine ⟨[], c :: z, by rw [h1]; simp [joinLn], by simp, by simpa [hc] using h3, ?_⟩
        simp only [lns, if_neg hc, h4]
        by_cases hz : z = [] <;> simp [hz]
      | cons a L =>
        refine ⟨(c :: a) :: L, z, by rw [h1]; simp [joinLn], ?_, h3, by simp [lns, if_neg hc, h4]⟩
        intro b hb d hd
        rcases List.mem_cons.1 hb with rfl | hb
        · rcases List.mem_cons.1 hd with rfl | hd
          · exact hc
          · exact h2 a (by simp) d hd
        · exact h2 b (by simp [hb]) d hd
end Go.Proofs.YtialgdnkkjmpbaaGreatDoor

/-
  Plain laws: what is printed is read (P47.5, P47.6). No program in sight.
-/
namespace Go.Proofs.YtialgdnkkjmpbaaGreatDoor

/-- Lines that end with a newline, one after the other. -/
def feed : Rd → List Bytes → Except Int Rd
  | s, [] => .ok s
  | s, a :: L => match readAny s a with
    | .error e => .error e
    | .ok s' => feed s' L
theorem feed_append : ∀ (L : List Bytes) (s s' : Rd) (M : List Bytes), feed s L = .ok s' → feed s (L ++ M) = feed s' M
  | [], s, s', M, h => by simp only [feed, Except.ok.injEq] at h; subst h; rfl
  | a :: L, s, s', M, h => by
    simp only [feed, List.cons_append] at h ⊢
    cases hr : readAny s a with
    | error e => rw [hr] at h; cases h
    | ok s1 => rw [hr] at h; simp only at h ⊢; exact feed_append L s1 s' M h
theorem readAll_feed : ∀ (L : List Bytes) (s s' : Rd) (n : Nat) (r : List (Bytes × Bool)), feed s L = .ok s' → readAll s n (L.map (·, true) ++ r) = readAll s' (n + L.length) r
  | [], s, s', n, r, h => by simp only [feed, Except.ok.injEq] at h; subst h; simp
  | a :: L, s, s', n, r, h => by
    simp only [feed] at h
    cases hr : readAny s a with
    | error e => rw [hr] at h; cases h
    | ok s1 =>
      rw [hr] at h
      simp only [List.map_cons, List.cons_append, readAll, hr, if_true]
      rw [readAll_feed L s1 s' (n + 1) r h]
      congr 1
      simp; omega
/-- Lines that are left out. -/
theorem feed_skipped : ∀ (L : List Bytes) (s : Rd), (∀ a ∈ L, skipped a = true) → feed s L = .ok s
  | [], _, _ => rfl
  | a :: L, s, h => by simp only [feed, readAny, h a (by simp), if_true]; exact feed_skipped L s (fun b hb => h b (by simp [hb]))

theorem skip_cons {c : UInt8} {l : Bytes} (h : c ≠ 35) : skipped (c :: l) = false := by simp [skipped, h]
theorem readAny_ln {s : Rd} {c : UInt8} {l : Bytes} (h : c ≠ 35) : readAny s (c :: l) = readLn s (c :: l) := by simp [readAny, skip_cons h]

theorem toNat_W {n : Int} (h : isW n = true) : ((n.toNat : Nat) : Int) = n := by have := isW_nonneg h; omega
theorem read_first (o : Bool) (x : Sc) (n : Int) (h : isW n = true) : readAny ⟨0, o, x⟩ (wLines ++ pNums [n]) = .ok ⟨1, o, { x with lines := n }⟩ := by
  have hp := pts_nums wLines [n] (by decide) (by simpa using h)
  have hn := nums_itoa [n] (by simpa using h)
  simp only [List.map_cons, List.map_nil] at hp hn
  rw [show wLines ++ pNums [n] = 108 :: ([105, 110, 101, 115] ++ pNums [n]) from rfl, readAny_ln (by decide), show (108 :: ([105, 110, 101, 115] ++ pNums [n]) : Bytes) = wLines ++ pNums [n] from rfl]
  unfold readLn rdFirst
  rw [hp]
  simp only [List.headD_cons, ne_eq, not_true_eq_false, List.length_cons, List.length_nil, or_self, if_false, List.tail_cons, hn, List.getD_cons_zero, toNat_W h]
theorem read_second (o : Bool) (x : Sc) (a b c d : Int) (ha : isW a = true) (hb : isW b = true) (hc : isW c = true) (hd : isW d = true) :
    readAny ⟨1, o, x⟩ (wSet ++ pNums [a, b, c, d]) = .ok ⟨2, o, { x with most := a, room := b, delay := c, buckets := d }⟩ := by
  have hp := pts_nums wSet [a, b, c, d] (by decide) (by simp [ha, hb, hc, hd])
  have hn := nums_itoa [a, b, c, d] (by simp [ha, hb, hc, hd])
  simp only [List.map_cons, List.map_nil] at hp hn
  rw [show wSet ++ pNums [a, b, c, d] = 115 :: ([101, 116] ++ pNums [a, b, c, d]) from rfl, readAny_ln (by decide), show (115 :: ([101, 116] ++ pNums [a, b, c, d]) : Bytes) = wSet ++ pNums [a, b, c, d] from rfl]
  unfold readLn rdSecond
  rw [hp]
  simp only [List.headD_cons, ne_eq, not_true_eq_false, List.length_cons, List.length_nil, or_self, if_false, List.tail_cons, hn, List.getD_cons_zero, List.getD_cons_succ, toNat_W ha, toNat_W hb, toNat_W hc, toNat_W hd]
theorem read_client (o : Bool) (x : Sc) (n : Int) (h : isW n = true) (h8 : x.clients.length < 8) :
    readAny ⟨2, o, x⟩ (wClient ++ pNums [n]) = .ok ⟨2, true, { x with clients := x.clients ++ [⟨n, []⟩] }⟩ := by
  have hp := pts_nums wClient [n] (by decide) (by simpa using h)
  have hn := nums_itoa [n] (by simpa using h)
  simp only [List.map_cons, List.map_nil] at hp hn
  have ht : (wClient ++ pNums [n]).take 2 = [99, 108] := rfl
  rw [show wClient ++ pNums [n] = 99 :: ([108, 105, 101, 110, 116] ++ pNums [n]) from rfl, readAny_ln (by decide), show (99 :: ([108, 105, 101, 110, 116] ++ pNums [n]) : Bytes) = wClient ++ pNums [n] from rfl]
  unfold readLn rdClients rdClient
  rw [hp, ht]
  simp only [List.headD_cons, ne_eq, not_true_eq_false, List.length_cons, List.length_nil, if_false, List.tail_cons, hn, List.getD_cons_zero, toNat_W h]
  rw [if_neg (by rintro ⟨h, _⟩; revert h; decide), if_neg (by omega)]
theorem addLine_last : ∀ (l : List Cl) (c : Cl) (t : Bytes), addLine (l ++ [c]) t = l ++ [⟨c.tries, c.lines ++ [t]⟩]
  | [], _, _ => rfl
  | [d], c, t => rfl
  | d :: e :: l, c, t => by
    have := addLine_last (e :: l) c t
    simp only [List.cons_append, addLine] at this ⊢
    rw [this]
theorem read_text (x : Sc) (l : List Cl) (c : Cl) (t : Bytes) (hx : x.clients = l ++ [c]) (h : c.lines.length < 100) :
    readAny ⟨2, true, x⟩ ([124, 32] ++ t) = .ok ⟨2, true, { x with clients := l ++ [⟨c.tries, c.lines ++ [t]⟩] }⟩ := by
  rw [show ([124, 32] ++ t : Bytes) = 124 :: (32 :: t) from rfl, readAny_ln (by decide)]
  unfold readLn rdClients
  simp only [List.take_succ_cons, List.take_zero, and_self, if_true, List.drop_succ_cons, List.drop_zero, hx, addLine_last]
  rw [if_neg (by simp [lastLines]; omega)]
theorem feed_texts : ∀ (ts : List Bytes) (x : Sc) (l : List Cl) (n : Int) (done : List Bytes), x.clients = l ++ [⟨n, done⟩] → done.length + ts.length ≤ 100 →
    feed ⟨2, true, x⟩ (ts.map fun t => [124, 32] ++ t) = .ok ⟨2, true, { x with clients := l ++ [⟨n, done ++ ts⟩] }⟩
  | [], x, l, n, done, hx, _ => by
    simp only [List.map_nil, feed, List.append_nil, ← hx]
  | t :: ts, x, l, n, done, hx, h => by
    simp only [List.length_cons] at h
    simp only [List.map_cons, feed, read_text x l ⟨n, done⟩ t hx (by simp; omega)]
    rw [feed_texts ts { x with clients := l ++ [⟨n, done ++ [t]⟩] } l n (done ++ [t]) rfl (by simp; omega)]
    simp
theorem feed_client (o : Bool) (x : Sc) (c : Cl) (hc : c.formed = true) (h8 : x.clients.length < 8) : feed ⟨2, o, x⟩ c.text = .ok ⟨2, true, { x with clients := x.clients ++ [c] }⟩ := by
  simp only [Cl.formed, Bool.and_eq_true, decide_eq_true_eq] at hc
  unfold Cl.text
  simp only [feed, read_client o x c.tries hc.1.1 h8]
  rw [feed_texts c.lines _ x.clients c.tries [] rfl (by simp; omega)]
  simp
theorem feed_clients : ∀ (cs : List Cl) (o : Bool) (x : Sc), cs.all Cl.formed = true → x.clients.length + cs.length ≤ 8 →
    ∃ o', feed ⟨2, o, x⟩ (cs.flatMap Cl.text) = .ok ⟨2, o', { x with clients := x.clients ++ cs }⟩
  | [], o, x, _, _ => ⟨o, by simp [feed]⟩
  | c :: cs, o, x, h, h8 => by
    simp only [List.all_cons, Bool.and_eq_true, List.length_cons] at h h8
    obtain ⟨o', ih⟩ := feed_clients cs true { x with clients := x.clients ++ [c] } h.2 (by simp; omega)
    refine ⟨o', ?_⟩
    rw [List.flatMap_cons, feed_append _ _ _ _ (feed_client o x c h.1 (by omega)), ih]
    simp
theorem kind_cases {k : Int} (h : 1 ≤ k ∧ k ≤ 12) : k = 1 ∨ k = 2 ∨ k = 3 ∨ k = 4 ∨ k = 5 ∨ k = 6 ∨ k = 7 ∨ k = 8 ∨ k = 9 ∨ k = 10 ∨ k = 11 ∨ k = 12 := by omega
theorem form_facts : ((List.range 13).all fun k => k == 0 || (decide (kindOf (formW k) = some k) && (formW k).all (fun c => c != 32 && c != 10) && decide (formW k ≠ []) && decide ((formW k).head? ≠ some 35) && decide ((formW k).head? ≠ some 124) && decide (formW k ≠ wClient) && decide (formN k ≤ 3) && decide (3 ≤ (formW k).length))) = true := by decide +kernel
theorem form_fact (k : Nat) (h0 : 1 ≤ k) (h : k ≤ 12) : kindOf (formW k) = some k ∧ (∀ c ∈ formW k, c ≠ 32 ∧ c ≠ 10) ∧ (∃ c r, formW k = c :: r ∧ c ≠ 35 ∧ c ≠ 124) ∧ formW k ≠ wClient ∧ formN k ≤ 3 ∧ 3 ≤ (formW k).length := by
  have := List.all_eq_true.1 form_facts k (by simp; omega)
  simp only [Bool.or_eq_true, beq_iff_eq, show k ≠ 0 by omega, false_or, Bool.and_eq_true, decide_eq_true_eq, List.all_eq_true, bne_iff_ne] at this
  obtain ⟨⟨⟨⟨⟨⟨⟨h1, h2⟩, h3⟩, h4⟩, h5⟩, h6⟩, h7⟩, h8⟩ := this
  refine ⟨h1, h2, ?_, h6, h7, h8⟩
  cases hw : formW k with
  | nil => exact absurd hw h3
  | cons c r => rw [hw] at h4 h5; exact ⟨c, r, rfl, by simpa using h4, by simpa using h5⟩
theorem Ac.right_k {a : Ac} (h : a.right = true) : 1 ≤ a.k.toNat ∧ a.k.toNat ≤ 12 ∧ ((a.k.toNat : Nat) : Int) = a.k := by
  simp only [Ac.right, Bool.and_eq_true, decide_eq_true_eq] at h; omega
theorem Ac.nums_W {a : Ac} (h : a.right = true) : (∀ n ∈ a.nums, isW n = true) ∧ a.nums.length = formN a.k.toNat := by
  have hk := Ac.right_k h
  have hf := (form_fact _ hk.1 hk.2.1).2.2.2.2.1
  simp only [Ac.right, Bool.and_eq_true, decide_eq_true_eq] at h
  refine ⟨fun n hn => ?_, by simp [Ac.nums]; omega⟩
  have := List.mem_of_mem_take hn
  simp only [List.mem_cons, List.not_mem_nil, or_false] at this
  rcases this with rfl | rfl | rfl <;> simp [h]
/-- The numbers of a right act, filled up with zeros, are its fields. -/
theorem Ac.back {a : Ac} (h : a.right = true) : let v := a.nums.map Int.toNat ++ [0, 0, 0]; (⟨(a.k.toNat : Nat), (v.getD 0 0 : Nat), (v.getD 1 0 : Nat), (v.getD 2 0 : Nat)⟩ : Ac) = a := by
  have hk := Ac.right_k h
  have hf := (form_fact _ hk.1 hk.2.1).2.2.2.2.1
  obtain ⟨k, x, y, z⟩ := a
  simp only [Ac.right, Bool.and_eq_true, decide_eq_true_eq] at h
  simp only at hk hf h
  obtain ⟨⟨⟨⟨_, hx⟩, hy⟩, hz⟩, h0⟩ := h
  simp only [Ac.nums]
  generalize formN k.toNat = n at *
  have h4 : n = 0 ∨ n = 1 ∨ n = 2 ∨ n = 3 := by omega
  rcases h4 with rfl | rfl | rfl | rfl
  · simp at h0; obtain ⟨rfl, rfl, rfl⟩ := h0; simp [hk.2.2]
  · simp at h0; obtain ⟨rfl, rfl⟩ := h0; simp [hk.2.2, toNat_W hx]
  · simp at h0; subst h0; simp [hk.2.2, toNat_W hx, toNat_W hy]
  · simp [hk.2.2, toNat_W hx, toNat_W hy, toNat_W hz]
theorem act_line (a : Ac) (m have_ : Nat) (h : a.right = true) (hm : 1 ≤ m) (hh : m + have_ ≤ 2000) : actLine have_ (pts (pAct a m)) = .ok (List.replicate m a) := by
  have hk := Ac.right_k h
  have hf := form_fact _ hk.1 hk.2.1
  have hn := Ac.nums_W h
  have hb := Ac.back h
  simp only at hb
  have hmW : isW (m : Int) = true := by simp [isW]; omega
  by_cases h1 : 1 < m
  · have hp : pts (pAct a m) = formW a.k.toNat :: (a.nums.map Lib.itoa ++ [[42], Lib.itoa (m : Int)]) := by
      have e : pAct a m = formW a.k.toNat ++ (pNums a.nums ++ (32 :: ([42] ++ pNums [(m : Int)]))) := by simp [pAct, h1]
      have key : ∀ (l : List Int) (w : Bytes), (∀ c ∈ w, c ≠ 32) → (∀ n ∈ l, isW n = true) → pts (w ++ (pNums l ++ (32 :: ([42] ++ pNums [(m : Int)])))) = w :: (l.map Lib.itoa ++ [[42], Lib.itoa (m : Int)]) := by
        intro l
        induction l with
        | nil =>
          intro w hw _
          have := pts_nums [42] [(m : Int)] (by decide) (by simpa using hmW)
          rw [show pNums [] = [] from rfl, List.nil_append, pts_cut w _ hw, this]
          rfl
        | cons n l ih =>
          intro w hw hl
          have e2 : pNums (n :: l) = 32 :: (Lib.itoa n ++ pNums l) := by simp [pNums]
          rw [e2, List.cons_append, pts_cut w _ hw, List.append_assoc, ih (Lib.itoa n) (fun c hc => (itoa_plain (isW_nonneg (hl n (by simp))) c hc).1) (fun m hm => hl m (by simp [hm]))]
          rfl
      rw [e, key _ _ (fun c hc => (hf.2.1 c hc).1) hn.1]
    have hnum : nums (a.nums.map Lib.itoa ++ [Lib.itoa (m : Int)]) = some (a.nums.map Int.toNat ++ [m]) := by
      have := nums_itoa (a.nums ++ [(m : Int)]) (by
        intro n hn'
        rcases List.mem_append.1 hn' with h' | h'
        · exact hn.1 n h'
        · simp only [List.mem_singleton] at h'; subst h'; exact hmW)
      simpa using this
    unfold actLine
    rw [hp]
    simp only [List.headD_cons, hf.1, List.tail_cons]
    unfold actRest
    have hL : (a.nums.map Lib.itoa).length = formN a.k.toNat := by simp [hn.2]
    have hL2 : (a.nums.map Int.toNat).length = formN a.k.toNat := by simp [hn.2]
    have c1 : (a.nums.map Lib.itoa ++ [[42], Lib.itoa (m : Int)]).length = formN a.k.toNat + 2 ∧ (a.nums.map Lib.itoa ++ [[42], Lib.itoa (m : Int)]).getD (formN a.k.toNat) [] = [42] := by
      refine ⟨by simp [hn.2], ?_⟩
      rw [List.getD_eq_getElem?_getD, List.getElem?_append_right (by omega), hL]; simp
    simp only [if_pos c1]
    have e3 : (a.nums.map Lib.itoa ++ [[42], Lib.itoa (m : Int)]).take (formN a.k.toNat) = a.nums.map Lib.itoa := by rw [← hL]; simp
    have e4 : (a.nums.map Lib.itoa ++ [[42], Lib.itoa (m : Int)]).getD (formN a.k.toNat + 1) [] = Lib.itoa (m : Int) := by
      rw [List.getD_eq_getElem?_getD, List.getElem?_append_right (by omega), hL]; simp
    rw [e3, e4, if_neg (by simp [hn.2]), hnum]
    have e5 : (a.nums.map Int.toNat ++ [m]).getD (formN a.k.toNat) 0 = m := by
      rw [List.getD_eq_getElem?_getD, List.getElem?_append_right (by omega), hL2]; simp
    have e6 : (a.nums.map Int.toNat ++ [m]).take (formN a.k.toNat) = a.nums.map Int.toNat := by rw [← hL2]; simp
    simp only [e5, e6]
    rw [if_neg (by omega), if_neg (by omega), hb]
  · have hm1 : m = 1 := by omega
    subst hm1
    have hp : pts (pAct a 1) = formW a.k.toNat :: a.nums.map Lib.itoa := by
      have := pts_nums (formW a.k.toNat) a.nums (fun c hc => (hf.2.1 c hc).1) hn.1
      simpa [pAct] using this
    have h49 : Lib.itoa (1 : Int) = [49] := by
      rw [show (1 : Int) = ((1 : Nat) : Int) from rfl, itoa_nat, dec_small (by decide)]; rfl
    have hnum : nums (a.nums.map Lib.itoa ++ [[49]]) = some (a.nums.map Int.toNat ++ [1]) := by
      have := nums_itoa (a.nums ++ [(1 : Int)]) (by
        intro n hn'
        rcases List.mem_append.1 hn' with h' | h'
        · exact hn.1 n h'
        · simp only [List.mem_singleton] at h'; subst h'; decide)
      simpa [h49] using this
    unfold actLine
    rw [hp]
    simp only [List.headD_cons, hf.1, List.tail_cons]
    unfold actRest
    have hL : (a.nums.map Lib.itoa).length = formN a.k.toNat := by simp [hn.2]
    have hL2 : (a.nums.map Int.toNat).length = formN a.k.toNat := by simp [hn.2]
    have c1 : ¬ ((a.nums.map Lib.itoa).length = formN a.k.toNat + 2 ∧ (a.nums.map Lib.itoa).getD (formN a.k.toNat) [] = [42]) := by omega
    simp only [if_neg c1]
    rw [if_neg (by omega), hnum]
    have e5 : (a.nums.map Int.toNat ++ [1]).getD (formN a.k.toNat) 0 = 1 := by
      rw [List.getD_eq_getElem?_getD, List.getElem?_append_right (by omega), hL2]; simp
    have e6 : (a.nums.map Int.toNat ++ [1]).take (formN a.k.toNat) = a.nums.map Int.toNat := by rw [← hL2]; simp
    simp only [e5, e6]
    rw [if_neg (by omega), if_neg (by omega), hb]
theorem pts_head (a : Ac) (m : Nat) (h : a.right = true) : (pts (pAct a m)).headD [] = formW a.k.toNat := by
  have hk := Ac.right_k h
  have hf := form_fact _ hk.1 hk.2.1
  have : ∃ r, pAct a m = formW a.k.toNat ++ r ∧ (r = [] ∨ ∃ r', r = 32 :: r') := by
    refine ⟨pNums a.nums ++ if 1 < m then [32, 42] ++ pNums [(m : Int)] else [], by simp [pAct], ?_⟩
    cases hn : a.nums with
    | nil =>
      by_cases h1 : 1 < m
      · exact .inr ⟨_, by simp [pNums, h1]; rfl⟩
      · exact .inl (by simp [pNums, h1])
    | cons n l => exact .inr ⟨_, by simp [pNums]; rfl⟩
  obtain ⟨r, e, rfl | ⟨r', rfl⟩⟩ := this
  · rw [e, List.append_nil, pts_plain _ (fun c hc => (hf.2.1 c hc).1)]; rfl
  · rw [e, pts_cut _ _ (fun c hc => (hf.2.1 c hc).1)]; rfl
theorem read_act (ph : Nat) (hph : 2 ≤ ph ∧ ph ≤ 3) (o : Bool) (x : Sc) (a : Ac) (m : Nat) (h : a.right = true) (hm : 1 ≤ m) (hh : m + x.acts.length ≤ 2000) :
    readAny ⟨ph, o, x⟩ (pAct a m) = .ok ⟨3, o, { x with acts := x.acts ++ List.replicate m a }⟩ := by
  have hk := Ac.right_k h
  have hf := form_fact _ hk.1 hk.2.1
  have hl := act_line a m x.acts.length h hm hh
  have hhd := pts_head a m h
  obtain ⟨c, r, hw, hc35, hc124⟩ := hf.2.2.1
  have e : pAct a m = c :: (r ++ (pNums a.nums ++ if 1 < m then [32, 42] ++ pNums [(m : Int)] else [])) := by simp [pAct, hw]
  have hany : readAny ⟨ph, o, x⟩ (pAct a m) = readLn ⟨ph, o, x⟩ (pAct a m) := by rw [e]; exact readAny_ln hc35
  have ht : ¬ ((pAct a m).take 2 = [124, 32] ∧ o = true) := by
    rintro ⟨h1, _⟩
    rw [e] at h1
    simp at h1
    exact hc124 h1.1
  rw [hany]
  obtain rfl | rfl : ph = 2 ∨ ph = 3 := by omega
  · unfold readLn rdClients rdActs
    simp only
    rw [if_neg ht, hhd, if_pos (by exact hf.2.2.2.1), hl]
  · unfold readLn rdActs
    simp only
    rw [hl]
theorem feed_acts : ∀ (rs : List (Ac × Nat)) (ph : Nat) (o : Bool) (x : Sc), 2 ≤ ph ∧ ph ≤ 3 → (∀ r ∈ rs, r.1.right = true ∧ 1 ≤ r.2) → x.acts.length + (rs.flatMap fun r => List.replicate r.2 r.1).length ≤ 2000 →
    ∃ ph', 2 ≤ ph' ∧ ph' ≤ 3 ∧ feed ⟨ph, o, x⟩ (rs.map fun r => pAct r.1 r.2) = .ok ⟨ph', o, { x with acts := x.acts ++ rs.flatMap fun r => List.replicate r.2 r.1 }⟩
  | [], ph, o, x, hph, _, _ => ⟨ph, hph.1, hph.2, by simp [feed]⟩
  | r :: rs, ph, o, x, hph, hr, hl => by
    simp only [List.flatMap_cons, List.length_append, List.length_replicate] at hl
    obtain ⟨ph', h1, h2, ih⟩ := feed_acts rs 3 o { x with acts := x.acts ++ List.replicate r.2 r.1 } (by omega) (fun r' hr' => hr r' (by simp [hr'])) (by simp only [List.length_append, List.length_replicate]; omega)
    refine ⟨ph', h1, h2, ?_⟩
    have h3 := hr r (by simp)
    simp only [List.map_cons, feed, read_act ph hph o x r.1 r.2 h3.1 h3.2 (by omega), ih]
    simp
theorem runs_cons_ne (a : Ac) (l : List Ac) : runs (a :: l) ≠ [] := by
  simp only [runs]
  split
  · simp
  · split <;> simp
/-- The runs of a list give the list back. -/
theorem runs_flat : ∀ l : List Ac, (runs l).flatMap (fun r => List.replicate r.2 r.1) = l
  | [] => rfl
  | a :: l => by
    have ih := runs_flat l
    simp only [runs]
    cases hr : runs l with
    | nil => rw [hr] at ih; simp only [List.flatMap_nil] at ih; subst ih; simp
    | cons bn r =>
      obtain ⟨b, n⟩ := bn
      rw [hr] at ih
      simp only
      split
      · rename_i e; subst e
        simp only [List.flatMap_cons] at ih ⊢
        rw [List.replicate_succ, List.cons_append, ih]
      · simp only [List.flatMap_cons] at ih ⊢
        rw [ih]; simp
theorem runs_mem : ∀ (l : List Ac) (r : Ac × Nat), r ∈ runs l → r.1 ∈ l ∧ 1 ≤ r.2
  | [], r, h => by simp [runs] at h
  | a :: l, r, h => by
    have ih := runs_mem l
    simp only [runs] at h
    cases hr : runs l with
    | nil => rw [hr] at h; simp at h; subst h; simp
    | cons bn s =>
      obtain ⟨b, n⟩ := bn
      rw [hr] at h ih
      simp only at h
      split at h
      · rename_i e; subst e
        rcases List.mem_cons.1 h with rfl | h
        · simp
        · have := ih r (by simp [h]); exact ⟨by simp [this.1], this.2⟩
      · rcases List.mem_cons.1 h with rfl | h
        · simp
        · have := ih r h; exact ⟨by simp [this.1], this.2⟩
/-- The lines of a printed script are read as the script. -/
theorem feed_text (x : Sc) (h : x.formed = true) : ∃ ph o, 2 ≤ ph ∧ feed Rd.start (textLines x) = .ok ⟨ph, o, x⟩ := by
  simp only [Sc.formed, Bool.and_eq_true, decide_eq_true_eq] at h
  obtain ⟨⟨⟨⟨⟨⟨⟨⟨h1, h2⟩, h3⟩, h4⟩, h5⟩, h6⟩, h7⟩, h8⟩, h9⟩ := h
  unfold textLines headLines
  have hr := fun (r : Ac × Nat) (hr : r ∈ runs x.acts) => (⟨List.all_eq_true.1 h9 _ (runs_mem _ r hr).1, (runs_mem _ r hr).2⟩ : r.1.right = true ∧ 1 ≤ r.2)
  obtain ⟨o1, hc⟩ := feed_clients x.clients false { Sc.zero with lines := x.lines, most := x.most, room := x.room, delay := x.delay, buckets := x.buckets } h8 (by simp [Sc.zero]; omega)
  obtain ⟨ph', hp1, hp2, ha⟩ := feed_acts (runs x.acts) 2 o1 { Sc.zero with lines := x.lines, most := x.most, room := x.room, delay := x.delay, buckets := x.buckets, clients := x.clients } (by omega) hr (by rw [runs_flat]; simp [Sc.zero]; omega)
  refine ⟨ph', o1, hp1, ?_⟩
  have e1 : feed Rd.start [wLines ++ pNums [x.lines], wSet ++ pNums [x.most, x.room, x.delay, x.buckets]] = .ok ⟨2, false, { Sc.zero with lines := x.lines, most := x.most, room := x.room, delay := x.delay, buckets := x.buckets }⟩ := by
    simp only [feed, Rd.start, read_first _ _ _ h1, read_second _ _ _ _ _ _ h2 h3 h4 h5]
  rw [List.append_assoc, feed_append _ _ _ _ e1, feed_append _ _ _ _ hc]
  simp only [Sc.zero, List.nil_append] at ha ⊢
  rw [ha, runs_flat]
theorem pNums_plain {l : List Int} (h : ∀ n ∈ l, isW n = true) : ∀ c ∈ pNums l, c ≠ 10 := by
  intro c hc
  simp only [pNums, List.mem_flatMap] at hc
  obtain ⟨n, hn, hc⟩ := hc
  rcases List.mem_cons.1 hc with rfl | hc
  · decide
  · exact (itoa_plain (isW_nonneg (h n hn)) c hc).2
/-- No line of a printed script has a newline. -/
theorem text_plain (x : Sc) (h : x.formed = true) : ∀ a ∈ textLines x, ∀ c ∈ a, c ≠ 10 := by
  simp only [Sc.formed, Bool.and_eq_true, decide_eq_true_eq] at h
  obtain ⟨⟨⟨⟨⟨⟨⟨⟨h1, h2⟩, h3⟩, h4⟩, h5⟩, h6⟩, h7⟩, h8⟩, h9⟩ := h
  have hap : ∀ {u v : Bytes}, (∀ c ∈ u, c ≠ 10) → (∀ c ∈ v, c ≠ 10) → ∀ c ∈ u ++ v, c ≠ 10 := fun hu hv c hc => (List.mem_append.1 hc).elim (hu c) (hv c)
  intro a ha
  unfold textLines headLines at ha
  rcases List.mem_append.1 ha with ha | ha
  · rcases List.mem_append.1 ha with ha | ha
    · simp only [List.mem_cons, List.not_mem_nil, or_false] at ha
      rcases ha with rfl | rfl
      · exact hap (by decide) (pNums_plain (by simpa using h1))
      · exact hap (by decide) (pNums_plain (by simp [h2, h3, h4, h5]))
    · obtain ⟨c, hc, ha⟩ := List.mem_flatMap.1 ha
      have hcf := List.all_eq_true.1 h8 c hc
      simp only [Cl.formed, Bool.and_eq_true, decide_eq_true_eq, List.all_eq_true] at hcf
      rcases List.mem_cons.1 ha with rfl | ha
      · exact hap (by decide) (pNums_plain (by simpa using hcf.1.1))
      · obtain ⟨l, hl, rfl⟩ := List.mem_map.1 ha
        refine hap (by decide) ?_
        intro d hd e
        subst e
        have := hcf.2 l hl
        simp at this
        exact this hd
  · obtain ⟨r, hr, rfl⟩ := List.mem_map.1 ha
    have hrt := List.all_eq_true.1 h9 _ (runs_mem _ r hr).1
    have hk := Ac.right_k hrt
    have hf := form_fact _ hk.1 hk.2.1
    unfold pAct
    refine hap (hap (fun c hc => (hf.2.1 c hc).2) (pNums_plain (Ac.nums_W hrt).1)) ?_
    split
    · refine hap (by decide) ?_
      intro c hc
      simp only [pNums, List.flatMap_cons, List.flatMap_nil, List.append_nil] at hc
      rcases List.mem_cons.1 hc with rfl | hc
      · decide
      · exact (itoa_plain (by omega) c hc).2
    · simp
/-- P47.5: Parse returns every script that was printed. -/
theorem parse_text (x : Sc) (h : x.formed = true) (hl : (text x).length ≤ 200000) : parse (text x) = (x, 0, 0) := by
  obtain ⟨ph, o, hp, hf⟩ := feed_text x h
  unfold parse
  rw [if_neg (by omega)]
  have := lns_join (textLines x) [] (text_plain x h)
  rw [List.append_nil] at this
  rw [show lns (text x) = (textLines x).map (·, true) ++ lns [] from this, readAll_feed _ _ _ _ _ hf]
  simp only [lns, readAll]
  rw [if_neg (by omega)]
end Go.Proofs.YtialgdnkkjmpbaaGreatDoor

/-
  Plain laws: a script that was read is well-formed, and its text is no longer than what was read (P47.5). No program in sight.
-/
namespace Go.Proofs.YtialgdnkkjmpbaaGreatDoor

theorem kindFrom_back {p : Bytes} : ∀ {l : List (Bytes × Nat)} {i k : Nat}, kindFrom p i l = some k → i ≤ k ∧ k < i + l.length ∧ (l.getD (k - i) ([], 0)).1 = p ∧ p ≠ []
  | [], _, _, h => by cases h
  | f :: l, i, k, h => by
    simp only [kindFrom] at h
    split at h
    · rename_i hf
      simp only [Option.some.injEq] at h
      subst h
      obtain ⟨rfl, h0⟩ := hf
      exact ⟨Nat.le_refl _, by simp, by simp, h0⟩
    · obtain ⟨h1, h2, h3, h4⟩ := kindFrom_back h
      refine ⟨by omega, by simp; omega, ?_, h4⟩
      rw [show k - i = (k - (i + 1)) + 1 by omega, List.getD_cons_succ]
      exact h3
theorem kind_back {p : Bytes} {k : Nat} (h : kindOf p = some k) : 1 ≤ k ∧ k ≤ 12 ∧ formW k = p := by
  obtain ⟨_, h2, h3, h4⟩ := kindFrom_back h
  rw [Nat.sub_zero] at h3
  have h12 : k ≤ 12 := by simp [forms] at h2; omega
  refine ⟨?_, h12, h3⟩
  rcases Nat.eq_zero_or_pos k with h0 | h0
  · subst h0; exact absurd h3.symm h4
  · exact h0
theorem W_of {n : Nat} (h : n ≤ maxWord) : isW (n : Int) = true := by unfold maxWord at h; simp [isW]; omega
/-- An act out of its kind and its numbers. -/
def mkAc (k : Nat) (l : List Nat) : Ac := let v := l ++ [0, 0, 0]; ⟨k, v.getD 0 0, v.getD 1 0, v.getD 2 0⟩
theorem mkAc_right (k : Nat) (l : List Nat) (h0 : 1 ≤ k) (h1 : k ≤ 12) (hl : l.length = formN k) (hw : ∀ n ∈ l, n ≤ maxWord) : (mkAc k l).right = true ∧ (mkAc k l).nums = l.map Int.ofNat ∧ (mkAc k l).k.toNat = k := by
  have h3 := (form_fact k h0 h1).2.2.2.2.1
  have z : isW 0 = true := by decide
  rcases l with _ | ⟨a, _ | ⟨b, _ | ⟨c, _ | ⟨d, r⟩⟩⟩⟩
  · simp only [List.length_nil] at hl
    simp [mkAc, Ac.right, Ac.nums, ← hl, z]; omega
  · simp only [List.length_cons, List.length_nil] at hl
    have ha := W_of (hw a (by simp))
    simp [mkAc, Ac.right, Ac.nums, ← hl, z, ha]; omega
  · simp only [List.length_cons, List.length_nil] at hl
    have ha := W_of (hw a (by simp)); have hb := W_of (hw b (by simp))
    simp [mkAc, Ac.right, Ac.nums, ← hl, z, ha, hb]; omega
  · simp only [List.length_cons, List.length_nil] at hl
    have ha := W_of (hw a (by simp)); have hb := W_of (hw b (by simp)); have hc := W_of (hw c (by simp))
    simp [mkAc, Ac.right, Ac.nums, ← hl, ha, hb, hc]; omega
  · simp only [List.length_cons] at hl; omega
theorem unpts_star : ∀ (l : List Int) (w : Bytes) (m : Int), unpts (w :: (l.map Lib.itoa ++ [[42], Lib.itoa m])) = w ++ (pNums l ++ ([32, 42] ++ pNums [m]))
  | [], w, m => by simp [unpts, pNums]
  | n :: l, w, m => by
    have ih := unpts_star l (Lib.itoa n) m
    simp only [List.map_cons, List.cons_append, unpts] at ih ⊢
    rw [ih]
    simp [pNums]
theorem pts_eq (line : Bytes) : pts line = (pts line).headD [] :: (pts line).tail := by
  cases h : pts line with
  | nil => exact absurd h (pts_ne line)
  | cons a r => rfl
theorem act_back {hv : Nat} {line : Bytes} {l : List Ac} (hl : actLine hv (pts line) = .ok l) :
    ∃ a m, l = List.replicate m a ∧ a.right = true ∧ 1 ≤ m ∧ m + hv ≤ 2000 ∧ (pAct a m).length ≤ line.length := by
  have hp := pts_eq line
  have hu := unpts_pts line
  rw [hp] at hu
  unfold actLine at hl
  cases hk : kindOf ((pts line).headD []) with
  | none => rw [hk] at hl; cases hl
  | some k =>
    rw [hk] at hl
    obtain ⟨k0, k1, kw⟩ := kind_back hk
    simp only at hl
    generalize (pts line).tail = ps at *
    generalize (pts line).headD [] = w at *
    subst kw
    unfold actRest at hl
    simp only at hl
    by_cases hm : ps.length = formN k + 2 ∧ ps.getD (formN k) [] = [42]
    · simp only [if_pos hm] at hl
      split at hl
      · cases hl
      rename_i hq
      cases hn : nums (ps.take (formN k) ++ [ps.getD (formN k + 1) []]) with
      | none => rw [hn] at hl; cases hl
      | some v =>
        rw [hn] at hl
        dsimp only at hl
        split at hl
        · cases hl
        rename_i h0
        split at hl
        · cases hl
        rename_i h2
        simp only [Except.ok.injEq] at hl
        obtain ⟨hb, hW⟩ := nums_back hn
        have hlen := nums_length hn
        simp only [List.length_append, List.length_take, List.length_cons, List.length_nil] at hlen
        have hvl : v.length = formN k + 1 := by omega
        obtain ⟨v1, m, rfl⟩ : ∃ v1 m, v = v1 ++ [m] := by
          have hne : v ≠ [] := by intro e; rw [e] at hvl; simp at hvl
          exact ⟨v.dropLast, v.getLast hne, (List.dropLast_concat_getLast hne).symm⟩
        simp only [List.length_append, List.length_cons, List.length_nil, Nat.add_right_cancel_iff] at hvl
        have e5 : (v1 ++ [m]).getD (formN k) 0 = m := by rw [List.getD_eq_getElem?_getD, ← hvl]; simp
        have e6 : (v1 ++ [m]).take (formN k) = v1 := by rw [← hvl]; simp
        rw [e5] at h0 h2 hl
        rw [e6] at hl
        simp only [List.map_append, List.map_cons, List.map_nil] at hb
        obtain ⟨hb1, hb2⟩ := List.append_inj' hb rfl
        simp only [List.cons.injEq, and_true] at hb2
        have hR := mkAc_right k v1 k0 k1 hvl (fun n hn => hW n (by simp [hn]))
        refine ⟨mkAc k v1, m, hl.symm, hR.1, by omega, by omega, ?_⟩
        have hps : ps = (v1.map Int.ofNat).map Lib.itoa ++ [[42], Lib.itoa (m : Int)] := by
          have hd : ps = ps.take (formN k) ++ [ps.getD (formN k) [], ps.getD (formN k + 1) []] := by
            apply List.ext_getElem?
            intro i
            by_cases h1 : i < formN k
            · rw [List.getElem?_append_left (by simp; omega), List.getElem?_take_of_lt h1]
            · rw [List.getElem?_append_right (by simp; omega)]
              have ht : (ps.take (formN k)).length = formN k := by simp; omega
              rw [ht]
              by_cases h2 : i = formN k
              · subst h2; simp [List.getElem?_eq_getElem (show formN k < ps.length by omega)]
              · by_cases h3 : i = formN k + 1
                · subst h3; simp [List.getElem?_eq_getElem (show formN k + 1 < ps.length by omega)]
                · rw [List.getElem?_eq_none (by omega), List.getElem?_eq_none (by simp; omega)]
          rw [hd, hm.2, hb1, hb2]
          simp
        rw [hps, unpts_star] at hu
        rw [← hu]
        unfold pAct
        rw [hR.2.1, hR.2.2]
        split <;> simp
    · simp only [if_neg hm] at hl
      split at hl
      · cases hl
      rename_i hq
      cases hn : nums (ps ++ [[49]]) with
      | none => rw [hn] at hl; cases hl
      | some v =>
        rw [hn] at hl
        dsimp only at hl
        split at hl
        · cases hl
        rename_i h0
        split at hl
        · cases hl
        rename_i h2
        simp only [Except.ok.injEq] at hl
        obtain ⟨hb, hW⟩ := nums_back hn
        have hlen := nums_length hn
        simp only [List.length_append, List.length_cons, List.length_nil] at hlen
        have hvl : v.length = formN k + 1 := by omega
        obtain ⟨v1, m, rfl⟩ : ∃ v1 m, v = v1 ++ [m] := by
          have hne : v ≠ [] := by intro e; rw [e] at hvl; simp at hvl
          exact ⟨v.dropLast, v.getLast hne, (List.dropLast_concat_getLast hne).symm⟩
        simp only [List.length_append, List.length_cons, List.length_nil, Nat.add_right_cancel_iff] at hvl
        have e5 : (v1 ++ [m]).getD (formN k) 0 = m := by rw [List.getD_eq_getElem?_getD, ← hvl]; simp
        have e6 : (v1 ++ [m]).take (formN k) = v1 := by rw [← hvl]; simp
        rw [e5] at h0 h2 hl
        rw [e6] at hl
        simp only [List.map_append, List.map_cons, List.map_nil] at hb
        obtain ⟨hb1, hb2⟩ := List.append_inj' hb rfl
        simp only [List.cons.injEq, and_true] at hb2
        have hm1 : m = 1 := by
          have := num_dec m (hW m (by simp))
          rw [← itoa_nat, ← hb2] at this
          have h49 : num [49] = some 1 := by decide
          rw [h49] at this
          simpa using this.symm
        subst hm1
        have hR := mkAc_right k v1 k0 k1 hvl (fun n hn => hW n (by simp [hn]))
        refine ⟨mkAc k v1, 1, hl.symm, hR.1, by omega, by omega, ?_⟩
        have hps : ps = (v1.map Int.ofNat).map Lib.itoa := by rw [hb1]; simp
        rw [hps, unpts_nums] at hu
        rw [← hu]
        unfold pAct
        rw [hR.2.1, hR.2.2]
        simp

/-! ### What the text of a script costs -/
def costL (L : List Bytes) : Nat := (L.map (·.length + 1)).sum
theorem cost_join (L : List Bytes) : (joinLn L).length = costL L := by
  induction L with
  | nil => rfl
  | cons a L ih => simp only [joinLn, List.flatMap_cons, List.length_append, costL, List.map_cons, List.sum_cons] at ih ⊢; rw [ih]; simp
theorem cost_append (A B : List Bytes) : costL (A ++ B) = costL A + costL B := by simp [costL]
theorem cost_one (a : Bytes) : costL [a] = a.length + 1 := by simp [costL]
theorem join_append (A B : List Bytes) : joinLn (A ++ B) = joinLn A ++ joinLn B := by simp [joinLn]

/-- m more acts behind some runs. -/
def snocRun (a : Ac) (m : Nat) : List (Ac × Nat) → List (Ac × Nat)
  | [] => [(a, m)]
  | [(b, n)] => if b = a then [(a, n + m)] else [(b, n), (a, m)]
  | r :: s :: l => r :: snocRun a m (s :: l)
theorem snocRun_two (a : Ac) (m : Nat) (r s : Ac × Nat) (l : List (Ac × Nat)) : snocRun a m (r :: s :: l) = r :: snocRun a m (s :: l) := rfl
theorem runs_snoc1 (a : Ac) : ∀ l : List Ac, runs (l ++ [a]) = snocRun a 1 (runs l)
  | [] => rfl
  | b :: l => by
    have ih := runs_snoc1 a l
    simp only [List.cons_append, runs, ih]
    cases hr : runs l with
    | nil =>
      simp only [snocRun]
      by_cases e : a = b
      · subst e; simp
      · simp [e, Ne.symm e]
    | cons cn r =>
      obtain ⟨c, n⟩ := cn
      cases r with
      | nil =>
        simp only [snocRun]
        by_cases h1 : c = a
        · subst h1
          simp only [if_true]
          by_cases h2 : c = b
          · subst h2; simp [snocRun]
          · simp [h2, snocRun]
        · simp only [if_neg h1]
          by_cases h2 : c = b
          · subst h2; simp [snocRun, h1]
          · simp [h2, snocRun, h1]
      | cons s r =>
        simp only [snocRun_two]
        by_cases h2 : c = b
        · simp [h2, snocRun_two]
        · simp [h2, snocRun_two]
theorem snocRun_more (a : Ac) (m : Nat) : ∀ l, snocRun a 1 (snocRun a m l) = snocRun a (m + 1) l
  | [] => by simp [snocRun]
  | [(b, n)] => by
    by_cases h : b = a
    · subst h; simp [snocRun, Nat.add_assoc]
    · simp [snocRun, h]
  | r :: s :: l => by
    have ih := snocRun_more a m (s :: l)
    rw [snocRun_two, snocRun_two, ← ih]
    cases h : snocRun a m (s :: l) with
    | nil => exfalso; obtain ⟨c, k⟩ := s; cases l <;> simp only [snocRun] at h <;> (try split at h) <;> simp at h
    | cons t u => rfl
theorem runs_snoc (a : Ac) (l : List Ac) : ∀ m, runs (l ++ List.replicate (m + 1) a) = snocRun a (m + 1) (runs l)
  | 0 => by simpa using runs_snoc1 a l
  | m + 1 => by
    rw [List.replicate_succ', ← List.append_assoc, runs_snoc1, runs_snoc a l m, snocRun_more]
def runCost (rs : List (Ac × Nat)) : Nat := costL (rs.map fun r => pAct r.1 r.2)
theorem dec_len (n : Nat) (h : n ≤ 2000) : (Lib.decDigits n).length = if n < 10 then 1 else if n < 100 then 2 else if n < 1000 then 3 else 4 := by
  split
  · rename_i h1; rw [dec_small h1]; rfl
  · rename_i h1
    rw [dec_big h1, List.length_append]
    split
    · rw [dec_small (by omega)]; rfl
    · rename_i h2
      rw [dec_big (by omega), List.length_append]
      split
      · rw [dec_small (by omega)]; rfl
      · rename_i h3
        rw [dec_big (by omega), dec_small (by omega)]; rfl
def starLen (n : Nat) : Nat := if 1 < n then 3 + (Lib.decDigits n).length else 0
theorem pAct_len (a : Ac) (n : Nat) : (pAct a n).length = (formW a.k.toNat ++ pNums a.nums).length + starLen n := by
  unfold pAct starLen
  split
  · simp [pNums, itoa_nat]; omega
  · simp
theorem star_merge (n m : Nat) (hn : 1 ≤ n) (hm : 1 ≤ m) (h : n + m ≤ 2000) : starLen (n + m) ≤ starLen n + starLen m + 4 := by
  unfold starLen
  rw [if_pos (by omega), dec_len _ h, dec_len n (by omega), dec_len m (by omega)]
  repeat' split
  all_goals omega
theorem runCost_snoc (a : Ac) (m : Nat) (ha : a.right = true) (hm : 1 ≤ m) : ∀ rs : List (Ac × Nat), (∀ r ∈ rs, 1 ≤ r.2 ∧ r.2 + m ≤ 2000) → runCost (snocRun a m rs) ≤ runCost rs + (pAct a m).length + 1 ∧ (snocRun a m rs).length ≤ rs.length + 1
  | [], _ => by simp [snocRun, runCost, costL]
  | [(b, n)], h => by
    simp only [snocRun]
    split
    · rename_i e; subst e
      have h1 := h (b, n) (by simp)
      have hk := Ac.right_k ha
      have hf := (form_fact _ hk.1 hk.2.1).2.2.2.2.2
      have := star_merge n m h1.1 hm h1.2
      simp only [runCost, List.map_cons, List.map_nil, cost_one, pAct_len, List.length_append, List.length_cons, List.length_nil]
      omega
    · simp [runCost, costL]; omega
  | r :: s :: l, h => by
    have ih := runCost_snoc a m ha hm (s :: l) (fun r hr => h r (by simp [hr]))
    rw [snocRun_two]
    simp only [runCost, List.map_cons, costL, List.sum_cons, List.length_cons] at ih ⊢
    omega
theorem sum_mem (rs : List (Ac × Nat)) (r : Ac × Nat) (h : r ∈ rs) : r.2 ≤ (rs.flatMap fun r => List.replicate r.2 r.1).length := by
  induction rs with
  | nil => cases h
  | cons s rs ih =>
    simp only [List.flatMap_cons, List.length_append, List.length_replicate]
    rcases List.mem_cons.1 h with rfl | h
    · omega
    · have := ih h; omega
theorem acts_cost (l : List Ac) (a : Ac) (m : Nat) (ha : a.right = true) (hm : 1 ≤ m) (h : m + l.length ≤ 2000) :
    runCost (runs (l ++ List.replicate m a)) ≤ runCost (runs l) + (pAct a m).length + 1 ∧ (runs (l ++ List.replicate m a)).length ≤ (runs l).length + 1 := by
  obtain ⟨m, rfl⟩ : ∃ k, m = k + 1 := ⟨m - 1, by omega⟩
  rw [runs_snoc]
  refine runCost_snoc a _ ha (by omega) (runs l) (fun r hr => ?_)
  have h1 := runs_mem l r hr
  have h2 := sum_mem (runs l) r hr
  rw [runs_flat] at h2
  omega

/-! ### What has been read -/
/-- The lines that stand for what has been read so far. -/
def partLines (s : Rd) : List Bytes :=
  (if 1 ≤ s.ph then [wLines ++ pNums [s.x.lines]] else []) ++ (if 2 ≤ s.ph then [wSet ++ pNums [s.x.most, s.x.room, s.x.delay, s.x.buckets]] else []) ++ s.x.clients.flatMap Cl.text ++ (runs s.x.acts).map fun r => pAct r.1 r.2
structure ReadOk (s : Rd) (L : List Bytes) : Prop where
  formed : s.x.formed = true
  early : s.ph < 2 → s.x.clients = [] ∧ s.x.acts = []
  mid : s.ph = 2 → s.x.acts = []
  open_ : s.opn = true → s.x.clients ≠ []
  ph3 : s.ph ≤ 3
  cost : costL (partLines s) ≤ costL L
  count : (partLines s).length ≤ L.length
theorem ReadOk.start : ReadOk Rd.start [] := ⟨by decide, by simp [Rd.start, Sc.zero], by simp [Rd.start], by simp [Rd.start], by simp [Rd.start], by decide, by decide⟩
theorem ReadOk.skip {s : Rd} {L : List Bytes} (h : ReadOk s L) (a : Bytes) : ReadOk s (L ++ [a]) :=
  ⟨h.formed, h.early, h.mid, h.open_, h.ph3, by rw [cost_append]; have := h.cost; omega, by have := h.count; simp; omega⟩
theorem clients_last {l : List Cl} (h : l ≠ []) : ∃ r c, l = r ++ [c] := ⟨l.dropLast, l.getLast h, (List.dropLast_concat_getLast h).symm⟩
theorem ReadOk.acts {s : Rd} {L : List Bytes} (h : ReadOk s L) (hp : 2 ≤ s.ph) {a : Bytes} {l : List Ac} (hl : actLine s.x.acts.length (pts a) = .ok l) :
    ReadOk { s with ph := 3, x := { s.x with acts := s.x.acts ++ l } } (L ++ [a]) := by
  obtain ⟨b, m, rfl, hr, hm, hs, hc⟩ := act_back hl
  have hf := h.formed
  simp only [Sc.formed, Bool.and_eq_true, decide_eq_true_eq] at hf
  have hco := acts_cost s.x.acts b m hr hm hs
  have h1 := h.cost
  have h2 := h.count
  unfold partLines at h1 h2
  rw [if_pos (by omega), if_pos (by omega)] at h1 h2
  refine ⟨?_, by simp, by simp, h.open_, by simp, ?_, ?_⟩
  · simp only [Sc.formed, Bool.and_eq_true, decide_eq_true_eq, List.all_append, List.length_append, List.length_replicate]
    refine ⟨⟨⟨⟨⟨⟨⟨⟨hf.1.1.1.1.1.1.1.1, hf.1.1.1.1.1.1.1.2⟩, hf.1.1.1.1.1.1.2⟩, hf.1.1.1.1.1.2⟩, hf.1.1.1.1.2⟩, hf.1.1.1.2⟩, by omega⟩, hf.1.2⟩, hf.2, ?_⟩
    simp [hr]
  · unfold partLines
    simp only [show 1 ≤ 3 by omega, show 2 ≤ 3 by omega, if_true, cost_append, cost_one, runCost] at h1 hco ⊢
    omega
  · unfold partLines
    simp only [show 1 ≤ 3 by omega, show 2 ≤ 3 by omega, if_true, List.length_append, List.length_map, List.length_cons, List.length_nil] at h2 hco ⊢
    omega
theorem pts_two {line w p : Bytes} {n : Nat} (hp : pts line = [w, p]) (hn : num p = some n) : line = w ++ pNums [(n : Int)] := by
  have := unpts_pts line
  rw [hp, (num_back hn).1, ← itoa_nat] at this
  rw [← this]
  simp [unpts, pNums]
theorem len2 {l : List Bytes} (h : ¬ l.length ≠ 2) : ∃ a b, l = [a, b] := by
  rcases l with _ | ⟨a, _ | ⟨b, _ | ⟨c, r⟩⟩⟩ <;> simp at h
  exact ⟨a, b, rfl⟩
theorem len5 {l : List Bytes} (h : ¬ l.length ≠ 5) : ∃ a b c d e, l = [a, b, c, d, e] := by
  rcases l with _ | ⟨a, _ | ⟨b, _ | ⟨c, _ | ⟨d, _ | ⟨e, _ | ⟨f, r⟩⟩⟩⟩⟩⟩ <;> simp at h
  exact ⟨a, b, c, d, e, rfl⟩
theorem ReadOk.step {s s' : Rd} {L : List Bytes} (h : ReadOk s L) {a : Bytes} (ha : ∀ c ∈ a, c ≠ 10) (hr : readAny s a = .ok s') : ReadOk s' (L ++ [a]) := by
  unfold readAny at hr
  split at hr
  · simp only [Except.ok.injEq] at hr; subst hr; exact h.skip a
  obtain ⟨ph, o, x⟩ := s
  have hf := h.formed
  simp only [Sc.formed, Bool.and_eq_true, decide_eq_true_eq] at hf
  obtain ⟨⟨⟨⟨⟨⟨⟨⟨f1, f2⟩, f3⟩, f4⟩, f5⟩, f6⟩, f7⟩, f8⟩, f9⟩ := hf
  have h1 := h.cost
  have h2 := h.count
  have h3 := h.ph3
  unfold readLn at hr
  have hph : ph = 0 ∨ ph = 1 ∨ ph = 2 ∨ ph = 3 := by simp at h3; omega
  rcases hph with rfl | rfl | rfl | rfl
  · simp only [rdFirst] at hr
    split at hr
    · cases hr
    rename_i hc
    simp only [not_or, Decidable.not_not] at hc
    obtain ⟨w, p, hp⟩ := len2 (by simpa using hc.2)
    rw [hp] at hr hc
    simp only [List.headD_cons, List.tail_cons, nums] at hc hr
    obtain ⟨rfl, _⟩ := hc
    cases hn : num p with
    | none => rw [hn] at hr; cases hr
    | some n =>
      rw [hn] at hr
      simp only [Option.map_some, List.getD_cons_zero, Except.ok.injEq] at hr
      have hW := W_of (num_back hn).2
      have e := pts_two hp hn
      obtain ⟨hc0, ha0⟩ := h.early (by simp)
      simp only at hc0 ha0
      subst hr
      refine ⟨by simp [Sc.formed, hW, f2, f3, f4, f5, hc0, ha0], by simp [hc0, ha0], by simp, by simpa [hc0] using h.open_, by simp, ?_, ?_⟩
      · simp [partLines, hc0, ha0, runs, cost_append, e]
      · simp [partLines, hc0, ha0, runs]
  · simp only [rdSecond] at hr
    split at hr
    · cases hr
    rename_i hc
    simp only [not_or, Decidable.not_not] at hc
    obtain ⟨w, p1, p2, p3, p4, hp⟩ := len5 (by simpa using hc.2)
    rw [hp] at hr hc
    simp only [List.headD_cons, List.tail_cons] at hc hr
    obtain ⟨rfl, _⟩ := hc
    cases hn : nums [p1, p2, p3, p4] with
    | none => rw [hn] at hr; cases hr
    | some v =>
      rw [hn] at hr
      obtain ⟨hb, hW⟩ := nums_back hn
      have hl := nums_length hn
      obtain ⟨n1, n2, n3, n4, rfl⟩ : ∃ a b c d, v = [a, b, c, d] := by
        rcases v with _ | ⟨a, _ | ⟨b, _ | ⟨c, _ | ⟨d, _ | ⟨e, r⟩⟩⟩⟩⟩ <;> simp at hl
        exact ⟨a, b, c, d, rfl⟩
      simp only [List.getD_cons_zero, List.getD_cons_succ, Except.ok.injEq] at hr
      have e := unpts_pts a
      rw [hp, hb, show ([n1, n2, n3, n4].map fun n : Nat => Lib.itoa (n : Int)) = [(n1 : Int), n2, n3, n4].map Lib.itoa from rfl, unpts_nums] at e
      obtain ⟨hc0, ha0⟩ := h.early (by simp)
      simp only at hc0 ha0
      subst hr
      refine ⟨by simp [Sc.formed, f1, W_of (hW n1 (by simp)), W_of (hW n2 (by simp)), W_of (hW n3 (by simp)), W_of (hW n4 (by simp)), hc0, ha0], by simp [hc0, ha0], by simp [ha0], by simpa [hc0] using h.open_, by simp, ?_, ?_⟩
      · simp only [partLines, hc0, ha0, runs, Nat.le_refl, if_true, show ¬ (2 ≤ 1) by omega, if_false, show 1 ≤ 2 by omega, List.flatMap_nil, List.map_nil, List.append_nil, cost_append, cost_one, ← e] at h1 ⊢; omega
      · simp only [partLines, hc0, ha0, runs, Nat.le_refl, if_true, show ¬ (2 ≤ 1) by omega, if_false, show 1 ≤ 2 by omega, List.flatMap_nil, List.map_nil, List.append_nil, List.length_append, List.length_cons, List.length_nil] at h2 ⊢; omega
  · simp only [rdClients, rdActs, rdClient] at hr
    have ha0 := h.mid rfl
    simp only at ha0
    split at hr
    · rename_i hc
      split at hr
      · cases hr
      rename_i h100
      simp only [Except.ok.injEq] at hr
      obtain ⟨l, c, hx⟩ := clients_last (h.open_ hc.2)
      simp only at hx
      have e : a = [124, 32] ++ a.drop 2 := by rw [← hc.1]; simp
      simp only [hx, lastLines] at h100
      simp only [List.getLast?_append, List.getLast?_singleton, Option.some_or, Option.map_some, Option.getD_some] at h100
      rw [hx] at f6 f8
      simp only [List.all_append, List.all_cons, List.all_nil, Bool.and_true, Bool.and_eq_true, List.length_append, List.length_cons, List.length_nil] at f6 f8
      have f8' := f8.2
      simp only [Cl.formed, Bool.and_eq_true, decide_eq_true_eq] at f8'
      have hno : (a.drop 2).contains 10 = false := by
        simp only [List.contains_eq_mem, decide_eq_false_iff_not]
        intro hm
        exact ha 10 (List.mem_of_mem_drop hm) rfl
      subst hr
      refine ⟨?_, by simp, by simp [ha0], by simp [hx, addLine_last], by simp, ?_, ?_⟩
      · simp only [Sc.formed, hx, addLine_last, Bool.and_eq_true, decide_eq_true_eq, List.all_append, List.all_cons, List.all_nil, Bool.and_true, List.length_append, List.length_cons, List.length_nil, Cl.formed]
        exact ⟨⟨⟨⟨⟨⟨⟨⟨f1, f2⟩, f3⟩, f4⟩, f5⟩, f6⟩, f7⟩, f8.1, ⟨f8'.1.1, by omega⟩, f8'.2, by rw [hno]; rfl⟩, f9⟩
      · simp only [partLines, ha0, runs, hx, addLine_last, List.flatMap_append, List.flatMap_cons, List.flatMap_nil, Cl.text, List.map_append, List.map_cons, List.map_nil, cost_append, ← e, cost_one, List.append_nil] at h1 ⊢
        simp only [costL, List.map_cons, List.map_append, List.sum_cons, List.sum_append, List.map_nil, List.sum_nil] at h1 ⊢
        omega
      · simp only [partLines, ha0, runs, hx, addLine_last, List.flatMap_append, List.flatMap_cons, List.flatMap_nil, Cl.text, List.map_append, List.map_cons, List.map_nil, List.length_append, List.length_cons, List.length_nil, List.length_map] at h2 ⊢
        omega
    split at hr
    · cases hac : actLine x.acts.length (pts a) with
      | error e => rw [hac] at hr; cases hr
      | ok l =>
        rw [hac] at hr
        simp only [Except.ok.injEq] at hr
        subst hr
        exact h.acts (Nat.le_refl _) hac
    rename_i hw
    split at hr
    · cases hr
    rename_i hc
    obtain ⟨w, p, hp⟩ := len2 hc
    rw [hp] at hr hw
    simp only [List.headD_cons, Decidable.not_not] at hw
    subst hw
    simp only [List.tail_cons, nums] at hr
    cases hn : num p with
    | none => rw [hn] at hr; cases hr
    | some n =>
      rw [hn] at hr
      simp only [Option.map_some, List.getD_cons_zero] at hr
      split at hr
      · cases hr
      rename_i h8
      simp only [Except.ok.injEq] at hr
      have hW := W_of (num_back hn).2
      have e := pts_two hp hn
      subst hr
      refine ⟨?_, by simp, by simp [ha0], by simp, by simp, ?_, ?_⟩
      · simp only [Sc.formed, Bool.and_eq_true, decide_eq_true_eq, List.all_append, List.all_cons, List.all_nil, Bool.and_true, List.length_append, List.length_cons, List.length_nil]
        exact ⟨⟨⟨⟨⟨⟨⟨⟨f1, f2⟩, f3⟩, f4⟩, f5⟩, by omega⟩, f7⟩, f8, by simp [Cl.formed, hW]⟩, f9⟩
      · simp only [partLines, ha0, runs, List.flatMap_append, List.flatMap_cons, List.flatMap_nil, Cl.text, List.map_nil, cost_append, ← e, cost_one, List.append_nil] at h1 ⊢
        omega
      · simp only [partLines, ha0, runs, List.flatMap_append, List.flatMap_cons, List.flatMap_nil, Cl.text, List.map_nil, List.length_append, List.length_cons, List.length_nil] at h2 ⊢
        omega
  · simp only [rdActs] at hr
    cases hac : actLine x.acts.length (pts a) with
    | error e => rw [hac] at hr; cases hr
    | ok l =>
      rw [hac] at hr
      simp only [Except.ok.injEq] at hr
      subst hr
      exact h.acts (by simp) hac
theorem actLine_err {hv : Nat} {ps : List Bytes} : actLine hv ps ≠ .error 0 := by
  unfold actLine
  split
  · intro h; simp [eSyntax] at h
  · unfold actRest
    dsimp only
    repeat' split
    all_goals (intro h; first | (cases h; done) | (simp [eSyntax, eNumber, eLimit] at h; done))
theorem rdActs_err {s : Rd} {ps : List Bytes} : rdActs s ps ≠ .error 0 := by
  unfold rdActs
  cases h : actLine s.x.acts.length ps with
  | error e => intro h1; simp only [Except.error.injEq] at h1; subst h1; exact actLine_err h
  | ok l => intro h1; cases h1
theorem readAny_err {s : Rd} {a : Bytes} : readAny s a ≠ .error 0 := by
  unfold readAny readLn
  split
  · intro h; cases h
  split
  · unfold rdFirst; repeat' split
    all_goals (intro h; first | (cases h; done) | (simp [eSyntax, eNumber, eLimit] at h; done))
  · unfold rdSecond; repeat' split
    all_goals (intro h; first | (cases h; done) | (simp [eSyntax, eNumber, eLimit] at h; done))
  · unfold rdClients
    split
    · split
      · intro h; simp [eLimit] at h
      · intro h; cases h
    · split
      · cases h : rdActs s (pts a) with
        | error e => intro h1; simp only [Except.error.injEq] at h1; subst h1; exact rdActs_err h
        | ok l => intro h1; cases h1
      · unfold rdClient; repeat' split
        all_goals (intro h; first | (cases h; done) | (simp [eSyntax, eNumber, eLimit] at h; done))
  · exact rdActs_err
theorem newlines_join : ∀ L : List Bytes, (∀ a ∈ L, ∀ c ∈ a, c ≠ 10) → (joinLn L).count 10 = L.length
  | [], _ => rfl
  | a :: L, h => by
    have ih := newlines_join L (fun b hb => h b (by simp [hb]))
    simp only [joinLn, List.flatMap_cons, List.count_append] at ih ⊢
    rw [ih, List.count_eq_zero.2 (fun hm => h a (by simp) 10 hm rfl)]
    simp; omega
/-- From lines that were read on. -/
theorem readAll_back : ∀ (L : List Bytes) (z : Bytes) (s : Rd) (n : Nat) (D : List Bytes) (res : Sc × Int × Int), ReadOk s D → (∀ a ∈ L, ∀ c ∈ a, c ≠ 10) → (∀ c ∈ z, c ≠ 10) →
    readAll s n (L.map (·, true) ++ (if z = [] then [] else [(z, false)])) = res →
    (∃ e : Int, e ≠ 0 ∧ ∃ k : Nat, k ≤ n + L.length ∧ res = (Sc.zero, (k : Int), e)) ∨ (z = [] ∧ ∃ s', 2 ≤ s'.ph ∧ ReadOk s' (D ++ L) ∧ res = (s'.x, 0, 0))
  | [], z, s, n, D, res, hs, _, hz, h => by
    by_cases he : z = []
    · subst he
      simp only [List.map_nil, List.nil_append, if_true, readAll] at h
      split at h
      · exact .inl ⟨eSyntax, by decide, n, by simp, h.symm⟩
      · exact .inr ⟨rfl, s, by omega, by simpa using hs, h.symm⟩
    · simp only [List.map_nil, List.nil_append, if_neg he, readAll] at h
      cases hr : readAny s z with
      | error e =>
        rw [hr] at h
        refine .inl ⟨e, ?_, n, by simp, h.symm⟩
        intro e0; subst e0
        exact readAny_err hr
      | ok s' =>
        rw [hr] at h
        exact .inl ⟨eSyntax, by decide, n, by simp, by simpa using h.symm⟩
  | a :: L, z, s, n, D, res, hs, hL, hz, h => by
    simp only [List.map_cons, List.cons_append, readAll] at h
    cases hr : readAny s a with
    | error e =>
      rw [hr] at h
      refine .inl ⟨e, ?_, n, by simp, h.symm⟩
      intro e0; subst e0
      exact readAny_err hr
    | ok s' =>
      rw [hr] at h
      simp only [if_true] at h
      rcases readAll_back L z s' (n + 1) (D ++ [a]) res (hs.step (hL a (by simp)) hr) (fun b hb => hL b (by simp [hb])) hz h with ⟨e, h0, k, hk, hres⟩ | ⟨h1, s2, h2, h3, h4⟩
      · exact .inl ⟨e, h0, k, by simp; omega, hres⟩
      · exact .inr ⟨h1, s2, h2, by simpa using h3, h4⟩
/-- P47.5: what was read. -/
theorem parse_back (t : Bytes) : (∃ e : Int, e ≠ 0 ∧ ∃ k : Nat, k ≤ t.count 10 ∧ parse t = (Sc.zero, (k : Int), e)) ∨
    (∃ x : Sc, parse t = (x, 0, 0) ∧ x.formed = true ∧ (text x).length ≤ t.length ∧ (text x).length ≤ 200000 ∧ (text x).count 10 ≤ t.count 10) := by
  by_cases h : 200000 < t.length
  · refine .inl ⟨eLimit, by decide, 0, by simp, ?_⟩
    unfold parse
    rw [if_pos h]; rfl
  · obtain ⟨L, z, h1, h2, h3, h4⟩ := lns_back t
    have hp : parse t = readAll Rd.start 0 (L.map (·, true) ++ (if z = [] then [] else [(z, false)])) := by unfold parse; rw [if_neg h, h4]
    have hcount : L.length ≤ t.count 10 := by rw [h1, List.count_append, newlines_join L h2]; omega
    rcases readAll_back L z Rd.start 0 [] _ ReadOk.start h2 h3 rfl with ⟨e, h0, k, hk, hres⟩ | ⟨hz, s, hs2, hok, hres⟩
    · exact .inl ⟨e, h0, k, by omega, by rw [hp, hres]⟩
    · refine .inr ⟨s.x, by rw [hp, hres], hok.formed, ?_, ?_, ?_⟩
      all_goals
        have ht : textLines s.x = partLines s := by unfold textLines headLines partLines; rw [if_pos (by omega), if_pos hs2]; simp
        have hc := hok.cost
        have hn := hok.count
        simp only [List.nil_append] at hc hn
        have hlen : (text s.x).length = costL (partLines s) := by unfold text; rw [cost_join, ht]
        have hlt : costL L ≤ t.length := by rw [h1, List.length_append, cost_join]; omega
      · omega
      · omega
      · unfold text
        rw [newlines_join _ (text_plain s.x hok.formed), ht]
        omega
end Go.Proofs.YtialgdnkkjmpbaaGreatDoor

/-
  Plain laws: the library's words for cutting and splitting a text are the lines and the parts. No program in sight.
-/
namespace Go.Proofs.YtialgdnkkjmpbaaGreatDoor

theorem idxB (b : UInt8) : ∀ t : Bytes, (Lib.index t [b] = -1 ∧ ∀ c ∈ t, c ≠ b) ∨ ∃ a r, t = a ++ b :: r ∧ (∀ c ∈ a, c ≠ b) ∧ Lib.index t [b] = (a.length : Int)
  | [] => .inl ⟨rfl, by simp⟩
  | c :: l => by
    by_cases h : c = b
    · subst h
      exact .inr ⟨[], l, rfl, by simp, by simp [Lib.index, List.isPrefixOf]⟩
    · have h2 : ([b].isPrefixOf (c :: l)) = false := by simp [List.isPrefixOf]; exact fun e => h e.symm
      rcases idxB b l with ⟨h3, h4⟩ | ⟨a, r, rfl, h4, h5⟩
      · refine .inl ⟨by simp [Lib.index, h2, h3], ?_⟩
        intro d hd
        rcases List.mem_cons.1 hd with rfl | hd
        · exact h
        · exact h4 d hd
      · refine .inr ⟨c :: a, r, rfl, ?_, ?_⟩
        · intro d hd
          rcases List.mem_cons.1 hd with rfl | hd
          · exact h
          · exact h4 d hd
        · simp only [Lib.index, h2, h5]
          rw [if_neg (by simp), if_neg (by simp)]
          simp
/-- One line is cut off. -/
theorem cut_line (t : Bytes) (h : t ≠ []) : ∃ line rest whole, Lib.cut t [10] = (line, rest, whole) ∧ lns t = (line, whole) :: lns rest ∧ (∀ c ∈ line, c ≠ 10) ∧ rest.length < t.length ∧ line.length ≤ t.length ∧ (whole = false → rest = []) := by
  rcases idxB 10 t with ⟨h1, h2⟩ | ⟨a, r, rfl, h1, h2⟩
  · refine ⟨t, [], false, ?_, ?_, h2, ?_, Nat.le_refl _, fun _ => rfl⟩
    · unfold Lib.cut; rw [h1]; rfl
    · rw [lns_plain t h h2]; rfl
    · exact List.length_pos_iff.2 h
  · refine ⟨a, r, true, ?_, lns_cut a r h1, h1, by simp; omega, by simp, fun h => by cases h⟩
    unfold Lib.cut
    rw [h2, if_pos (by omega)]
    simp
theorem splitK_pts : ∀ (k : Nat) (t : Bytes), (t.filter (· == 32)).length ≤ k → Lib.splitK [32] 0 k t = pts t
  | 0, t, h => by
    have : ∀ c ∈ t, c ≠ 32 := fun c hc e => by
      have hm : c ∈ t.filter (· == 32) := List.mem_filter.2 ⟨hc, by simp [e]⟩
      have := List.length_pos_of_mem hm
      omega
    rw [pts_plain t this]; rfl
  | k + 1, t, h => by
    rcases idxB 32 t with ⟨h1, h2⟩ | ⟨a, r, rfl, h1, h2⟩
    · rw [Lib.splitK, h1, pts_plain t h2]; rfl
    · rw [Lib.splitK, h2, pts_cut a r h1, if_neg (by simp)]
      have e : Lib.splitK [32] 0 k r = pts r := splitK_pts k r (by
        rw [List.filter_append, List.filter_cons] at h
        simp only [beq_self_eq_true, if_true, List.length_append, List.length_cons] at h
        omega)
      simp [e]
theorem countFrom_ge : ∀ (fuel : Nat) (t : Bytes), t.length < fuel → (t.filter (· == 32)).length ≤ Lib.countFrom [32] fuel t
  | 0, t, h => by omega
  | fuel + 1, t, h => by
    rcases idxB 32 t with ⟨h1, h2⟩ | ⟨a, r, rfl, h1, h2⟩
    · have : t.filter (· == 32) = [] := List.filter_eq_nil_iff.2 (fun c hc => by simp [h2 c hc])
      rw [this]; simp
    · rw [Lib.countFrom, h2, if_neg (by simp)]
      have ih := countFrom_ge fuel r (by simp at h; omega)
      have e : ((a ++ 32 :: r).drop ((a.length : Int).toNat + ([32] : Bytes).length)) = r := by simp
      rw [e, List.filter_append, List.filter_cons, show a.filter (· == 32) = [] from List.filter_eq_nil_iff.2 (fun c hc => by simp [h1 c hc])]
      simp
      omega
theorem split_pts (s : ByteArray) : (Lib.splitB ⟨#[32]⟩ 0 (Lib.countB s ⟨#[32]⟩) s).map (·.data.toList) = pts s.data.toList := by
  rw [Lib.splitB_data]
  exact splitK_pts _ _ (countFrom_ge _ _ (Nat.lt_succ_self _))
theorem split_vals (s : ByteArray) : (Lib.splitB ⟨#[32]⟩ 0 (Lib.countB s ⟨#[32]⟩) s).map Value.string = (pts s.data.toList).map fun p => .string ⟨p.toArray⟩ := by
  rw [← split_pts, List.map_map]
  rfl
theorem split_len (s : ByteArray) : Lib.countB s ⟨#[32]⟩ + 1 = (pts s.data.toList).length := by
  have := congrArg List.length (split_pts s)
  rw [List.length_map, Lib.splitB_all ⟨#[32]⟩ (by decide) 0 _ s rfl] at this
  exact this
theorem pts_length : ∀ l : Bytes, (pts l).length ≤ l.length + 1
  | [] => by simp [pts]
  | c :: l => by
    have ih := pts_length l
    simp only [pts]
    split
    · simp; omega
    · split
      · simp
      · rename_i h; rw [h] at ih; simp at ih ⊢; omega
theorem pts_small : ∀ (l p : Bytes), p ∈ pts l → p.length ≤ l.length
  | [], p, h => by simp [pts] at h; subst h; simp
  | c :: l, p, h => by
    simp only [pts] at h
    split at h
    · rcases List.mem_cons.1 h with rfl | h
      · simp
      · have := pts_small l p h; simp; omega
    · split at h
      · simp at h; subst h; simp
      · rename_i a r e
        rcases List.mem_cons.1 h with rfl | h
        · have := pts_small l a (by rw [e]; simp); simp; omega
        · have := pts_small l p (by rw [e]; simp [h]); simp; omega
end Go.Proofs.YtialgdnkkjmpbaaGreatDoor

/-
  Plain laws: a text as it is written, line behind line; runs of equal acts. No program in sight.
-/
namespace Go.Proofs.YtialgdnkkjmpbaaGreatDoor

/-- Lines behind a first one. -/
def nl (M : List Bytes) : Bytes := M.flatMap fun l => 10 :: l
theorem nl_append (A B : List Bytes) : nl (A ++ B) = nl A ++ nl B := by simp [nl]
theorem nl_cons (a : Bytes) (M : List Bytes) : nl (a :: M) = 10 :: a ++ nl M := by simp [nl]
theorem nl_end : ∀ M : List Bytes, nl M ++ [10] = 10 :: joinLn M
  | [] => rfl
  | a :: M => by rw [nl_cons, List.append_assoc, nl_end M]; simp [joinLn]
def actLines (l : List Ac) : List Bytes := (runs l).map fun r => pAct r.1 r.2
def line0 (x : Sc) : Bytes := wLines ++ pNums [x.lines]
def line1 (x : Sc) : Bytes := wSet ++ pNums [x.most, x.room, x.delay, x.buckets]
/-- The text without its last newline. -/
def body (x : Sc) : Bytes := line0 x ++ nl (line1 x :: (x.clients.flatMap Cl.text ++ actLines x.acts))
theorem text_body (x : Sc) : text x = body x ++ [10] := by
  unfold text body textLines headLines actLines
  rw [List.append_assoc (line0 x), nl_end]
  simp [joinLn, line0, line1]
theorem runs_front : ∀ (a : Ac) (l : List Ac), runs (a :: l) = (a, runLen a (a :: l)) :: runs ((a :: l).drop (runLen a (a :: l)))
  | a, [] => by simp [runs, runLen]
  | a, b :: l => by
    have ih := runs_front b l
    rw [runs, ih]
    simp only
    by_cases h : b = a
    · subst h
      rw [if_pos rfl]
      simp only [runLen, if_true, List.drop_succ_cons]
    · rw [if_neg h]
      have e : runLen a (a :: b :: l) = 1 := by simp [runLen, h]
      rw [e, List.drop_succ_cons, List.drop_zero, ih]
theorem runLen_eq : ∀ (a : Ac) (l : List Ac) (n : Nat), n ≤ l.length → (∀ j, j < n → l[j]? = some a) → (∀ b, l[n]? = some b → b ≠ a) → runLen a l = n
  | a, [], n, h, _, _ => by simp at h; subst h; rfl
  | a, b :: l, 0, _, _, h => by
    have := h b (by simp)
    simp [runLen, this]
  | a, b :: l, n + 1, h, h1, h2 => by
    have hb : b = a := by have := h1 0 (by omega); simpa using this
    simp only [runLen, if_pos hb]
    rw [runLen_eq a l n (by simp at h; omega) (fun j hj => by have := h1 (j + 1) (by omega); simpa using this) (fun c hc => h2 c (by simpa using hc))]
theorem actLines_front {l : List Ac} {a : Ac} {n : Nat} (h0 : l[0]? = some a) (hn : runLen a l = n) : actLines l = pAct a n :: actLines (l.drop n) := by
  cases l with
  | nil => simp at h0
  | cons b l =>
    simp only [List.getElem?_cons_zero, Option.some.injEq] at h0
    subst h0
    unfold actLines
    rw [runs_front, hn]
    rfl
theorem runLen_le (a : Ac) : ∀ l : List Ac, runLen a l ≤ l.length
  | [] => by simp [runLen]
  | b :: l => by simp only [runLen]; split; have := runLen_le a l; simp; omega; simp
end Go.Proofs.YtialgdnkkjmpbaaGreatDoor
