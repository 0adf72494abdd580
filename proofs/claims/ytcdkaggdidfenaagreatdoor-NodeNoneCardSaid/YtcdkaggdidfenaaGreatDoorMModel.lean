/- A part of the proof: contracts of functions of the given program, and the laws on memory that they lean on. -/
import Derived.Test.YtcdkaggdidfenaaGreatDoorMData
set_option linter.all false
namespace St

/-! ### job, prog, pair: what may be -/

def within (n lo hi : Int) : Bool := decide (lo ≤ n) && decide (n ≤ hi)

def insMay (i : In) (n : Int) : Bool :=
  if i.op = 1 then i.s.size == 0
  else
    let long : Int := if i.op = 2 then 64 else 0
    let most : Int := if i.op = 19 ∨ i.op = 20 then n else if i.op = 21 ∨ i.op = 22 then 7 else 0
    decide (0 ≤ i.op) && decide (i.op ≤ 23) && decide (0 ≤ i.a) && decide (i.a ≤ most) && decide ((i.s.size : Int) ≤ long)

/-- The place of the first that may not be, from place k on. -/
def badFrom (n : Int) : Nat → List In → Option Nat
  | _, [] => none
  | k, i :: p => if insMay i n then badFrom n (k + 1) p else some k

def progBad (p : List In) : Int :=
  match badFrom p.length 0 (p.take 40) with
  | some k => k
  | none => if 40 < p.length then 40 else -1

def progMay (p : List In) : Bool := decide (progBad p < 0)
def progRuns (p : List In) : Bool := decide (0 < p.length) && progMay p

def pairOk (p : Pr) : Bool := decide (p.key.size ≤ 16) && decide (p.val.size ≤ 64)
def pairsMay (ps : List Pr) : Bool := ps.all pairOk

def splitsOk (ss : List (List Pr)) : Bool := ss.all fun s => decide (s.length ≤ 8) && pairsMay s
def marksOk (n : Int) : Int → List Int → Bool
  | _, [] => true
  | last, m :: ms => within m (last + 1) n && marksOk n m ms

def jobMay (j : Job) : Bool :=
  within j.splits.length 1 6 && within j.parts 1 4 && decide (j.marks.length ≤ 4) && splitsOk j.splits && marksOk j.splits.length 0 j.marks &&
  progRuns j.map && progRuns j.reduce && progMay j.combine && within j.chunk 1 7 && within j.window 1 4 && within j.fuel 1 2000

def cfgMay (c : Cfg) : Bool := jobMay c.job && within c.workers 1 4 && within c.tries 1 3 && within c.timeout 1 50

def home (c : Cfg) (part : Int) : Int := if cfgMay c && within part 0 (c.job.parts - 1) then 1 + part % c.workers else 0
def turn (c : Cfg) (n : Int) : Int := if cfgMay c then 1 + (n % 18446744073709551616) % c.workers else 0

end St
namespace St
/-- The place of the first that is so, from place k on; -1: none. -/
def idxFrom {α : Type} (f : α → Bool) : Nat → List α → Int
  | _, [] => -1
  | k, x :: l => if f x then k else idxFrom f (k + 1) l

theorem idx_hit {α : Type} (f : α → Bool) : ∀ (l : List α) (k j : Nat) (x : α), l[j]? = some x → (∀ y ∈ l.take j, f y = false) → f x = true → idxFrom f k l = (k + j : Nat) := by
  intro l
  induction l with
  | nil => intro k j x h; simp at h
  | cons y l ih =>
    intro k j x h h2 h3
    cases j with
    | zero => simp at h; subst h; simp [idxFrom, h3]
    | succ j =>
      have hy := h2 y (by simp)
      rw [idxFrom, hy, if_neg (by simp), ih (k + 1) j x (by simpa using h) (fun z hz => h2 z (by simp [hz])) h3]
      congr 1; omega

theorem idx_miss {α : Type} (f : α → Bool) : ∀ (l : List α) (k : Nat), (∀ y ∈ l, f y = false) → idxFrom f k l = -1 := by
  intro l
  induction l with
  | nil => intro k _; rfl
  | cons y l ih =>
    intro k h
    rw [idxFrom, h y (.head _), if_neg (by simp), ih (k + 1) (fun z hz => h z (.tail _ hz))]

theorem idx_any {α : Type} (f : α → Bool) (l : List α) (k : Nat) : decide (0 ≤ idxFrom f k l) = l.any f := by
  induction l generalizing k with
  | nil => simp [idxFrom]
  | cons y l ih =>
    simp only [idxFrom, List.any_cons]
    by_cases hy : f y = true
    · simp [hy]
    · simp [hy, ih]

theorem take_next {α : Type} {f : α → Bool} {l : List α} {j : Nat} {x : α} (hx : l[j]? = some x) (h : ∀ y ∈ l.take j, f y = false) (hf : f x = false) : ∀ y ∈ l.take (j + 1), f y = false := by
  intro y hy
  rw [List.take_add_one, hx] at hy
  simp at hy
  rcases hy with hy | rfl
  · exact h y hy
  · exact hf
end St
namespace St
structure JobOk (j : Job) : Prop where
  s1 : 1 ≤ j.splits.length
  s2 : j.splits.length ≤ 6
  p1 : 1 ≤ j.parts
  p2 : j.parts ≤ 4
  m : j.marks.length ≤ 4
  ss : ∀ s ∈ j.splits, s.length ≤ 8 ∧ pairsMay s = true
  mo : marksOk j.splits.length 0 j.marks = true
  map : progRuns j.map = true
  reduce : progRuns j.reduce = true
  combine : progMay j.combine = true
  c1 : 1 ≤ j.chunk
  c2 : j.chunk ≤ 7
  w1 : 1 ≤ j.window
  w2 : j.window ≤ 4
  f1 : 1 ≤ j.fuel
  f2 : j.fuel ≤ 2000

theorem jobMay_ok {j : Job} (h : jobMay j = true) : JobOk j := by
  simp only [jobMay, within, Bool.and_eq_true, decide_eq_true_eq, splitsOk, List.all_eq_true] at h
  obtain ⟨⟨⟨⟨⟨⟨⟨⟨⟨⟨h1, h2⟩, h3⟩, h4⟩, h5⟩, h6⟩, h7⟩, h8⟩, h9⟩, h10⟩, h11⟩ := h
  exact ⟨by omega, by omega, by omega, by omega, h3, fun s hs => h4 s hs, h5, h6, h7, h8, by omega, by omega, by omega, by omega, by omega, by omega⟩

structure CfgOk (c : Cfg) : Prop where
  job : JobOk c.job
  w1 : 1 ≤ c.workers
  w2 : c.workers ≤ 4
  t1 : 1 ≤ c.tries
  t2 : c.tries ≤ 3
  o1 : 1 ≤ c.timeout
  o2 : c.timeout ≤ 50

theorem cfgMay_ok {c : Cfg} (h : cfgMay c = true) : CfgOk c := by
  simp only [cfgMay, within, Bool.and_eq_true, decide_eq_true_eq] at h
  obtain ⟨⟨⟨h1, h2⟩, h3⟩, h4⟩ := h
  exact ⟨jobMay_ok h1, by omega, by omega, by omega, by omega, by omega, by omega⟩

theorem progMay_len {p : List In} (h : progMay p = true) : p.length ≤ 40 := by
  unfold progMay at h
  have h := of_decide_eq_true h
  unfold progBad at h
  split at h
  · omega
  · split at h <;> omega
end St
namespace St
/-! ### code: numbers and texts in bytes -/
def numByte (n : Int) (i : Nat) : UInt8 := UInt8.ofNat ((n % 18446744073709551616).toNat / 2 ^ (8 * (7 - i)))
def numB (n : Int) : List UInt8 := (List.range 8).map (numByte n)
def numOf (l : List UInt8) : Nat := l.foldl (fun n x => n * 256 + x.toNat) 0
def toI64 (n : Nat) : Int := if n < 9223372036854775808 then n else n - 18446744073709551616
def readNum (b : List UInt8) (p : Int) : Int × Int × Bool :=
  if p < 0 ∨ (b.length : Int) < p ∨ (b.length : Int) - p < 8 then (0, 0, false) else (toI64 (numOf ((b.drop p.toNat).take 8)), p + 8, true)
def textB (s : ByteArray) : List UInt8 := numB s.size ++ s.data.toList
def readText (b : List UInt8) (p : Int) : ByteArray × Int × Bool :=
  match readNum b p with
  | (n, next, ok) => if ok = false ∨ n < 0 ∨ (b.length : Int) - next < n then (⟨#[]⟩, 0, false) else (⟨((b.drop next.toNat).take n.toNat).toArray⟩, next + n, true)
end St
namespace St
/-! ### record: a record in bytes -/
def bodyB (r : Rec) : List UInt8 :=
  [r.kind, r.part, r.split, r.attempt, r.reason, (r.set.length : Int)].flatMap numB ++ r.set.flatMap numB ++ numB r.pairs.length ++ r.pairs.flatMap (fun p => textB p.key ++ textB p.val)
structure RecSmall (r : Rec) : Prop where
  s : r.set.length ≤ 1000
  p : r.pairs.length ≤ 1000
  k : ∀ p ∈ r.pairs, p.key.size ≤ 7000 ∧ p.val.size ≤ 7000
theorem numB_len (n : Int) : (numB n).length = 8 := by simp [numB]
theorem numsB_len (l : List Int) : (l.flatMap numB).length = 8 * l.length := by
  induction l with
  | nil => rfl
  | cons x l ih => rw [List.flatMap_cons, List.length_append, numB_len, ih, List.length_cons]; omega
theorem textB_len (s : ByteArray) : (textB s).length = 8 + s.size := by
  rw [textB, List.length_append, numB_len]; cases s; rfl
theorem pairsB_len (l : List Pr) (h : ∀ p ∈ l, p.key.size ≤ 7000 ∧ p.val.size ≤ 7000) : (l.flatMap (fun p => textB p.key ++ textB p.val)).length ≤ 14016 * l.length := by
  induction l with
  | nil => simp
  | cons x l ih =>
    have h1 := h x (.head _)
    have h2 := ih (fun p hp => h p (.tail _ hp))
    rw [List.flatMap_cons, List.length_append, List.length_append, textB_len, textB_len, List.length_cons]
    omega
theorem flatMap_take {α β : Type} {f : α → List β} {l : List α} {j : Nat} {x : α} (hx : l[j]? = some x) : (l.take (j + 1)).flatMap f = (l.take j).flatMap f ++ f x := by
  rw [List.take_add_one, hx]; simp
end St
