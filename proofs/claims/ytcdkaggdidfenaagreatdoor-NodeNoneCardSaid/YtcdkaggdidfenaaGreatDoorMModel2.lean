/- A part of the proof: contracts of functions of the given program, and the laws on memory that they lean on. -/
import Derived.Test.YtcdkaggdidfenaaGreatDoorMModel
set_option linter.all false
namespace St
/-! ### record -/
def isSplit (n : Int) : Bool := within n 0 5
def isPart (n : Int) : Bool := within n 0 3
def isAttempt (n : Int) : Bool := within n 1 3
def countsOk (l : List Int) : Bool := decide (l.length ≤ 4) && !(l.any fun n => !(within n 0 40))
def setOk : Int → List Int → Bool
  | _, [] => true
  | last, n :: l => isSplit n && decide (last < n) && setOk n l
def overOk (r : Rec) : Bool :=
  within r.reason 1 6 && (decide (r.attempt = 0) && isSplit r.split && decide (r.part = 0) || decide (r.attempt = 1) && isPart r.part && decide (r.split = 0))
def recMay (r : Rec) : Bool :=
  if (r.kind ≠ 1 ∧ r.kind ≠ 5 ∧ 0 < r.set.length) ∨ (r.kind ≠ 4 ∧ 0 < r.pairs.length) ∨ (r.kind ≠ 3 ∧ r.reason ≠ 0) then false
  else if r.kind = 1 then decide (r.part = 0) && isSplit r.split && isAttempt r.attempt && countsOk r.set
  else if r.kind = 2 ∨ r.kind = 6 then decide (r.part = 0) && decide (r.split = 0) && decide (r.attempt = 0)
  else if r.kind = 3 then overOk r
  else if r.kind = 4 then isPart r.part && isSplit r.split && isAttempt r.attempt && decide (r.pairs.length ≤ 40) && pairsMay r.pairs
  else if r.kind = 5 then isPart r.part && decide (r.split = 0) && decide (r.attempt = 0) && setOk (-1) r.set
  else false
def recB (r : Rec) : List UInt8 := textB ⟨(bodyB r).toArray⟩
def layB (rs : List Rec) : List UInt8 := if rs.all recMay then rs.flatMap recB else []

/-- A reader of a record's body. -/
structure Rdr where
  b : List UInt8
  p : Int := 0
  bad : Bool := false
def Rdr.num (s : Rdr) : Int × Rdr :=
  let r := readNum s.b s.p
  (r.1, { s with bad := s.bad || !r.2.2, p := if r.2.2 then r.2.1 else s.p })
def Rdr.count (s : Rdr) (most : Int) : Int × Rdr :=
  if within s.num.1 0 most then s.num else (0, { s.num.2 with bad := true })
def Rdr.text (s : Rdr) : ByteArray × Rdr :=
  let r := readText s.b s.p
  (r.1, { s with bad := s.bad || !r.2.2, p := if r.2.2 then r.2.1 else s.p })
def Rdr.nums : Nat → Rdr → List Int × Rdr
  | 0, s => ([], s)
  | n + 1, s => let q := Rdr.nums n s; (q.1 ++ [q.2.num.1], q.2.num.2)
def Rdr.prs : Nat → Rdr → List Pr × Rdr
  | 0, s => ([], s)
  | n + 1, s => let q := Rdr.prs n s; let k := q.2.text; let v := k.2.text; (q.1 ++ [⟨k.1, v.1⟩], v.2)
def Rdr.record (s : Rdr) : Rec × Rdr :=
  let a := s.num; let b := a.2.num; let c := b.2.num; let d := c.2.num; let e := d.2.num
  let n := e.2.count 6; let l := n.2.nums n.1.toNat
  let m := l.2.count 40; let q := m.2.prs m.1.toNat
  (⟨a.1, b.1, c.1, d.1, e.1, l.1, q.1⟩, q.2)
/-- The record at a place: it, and the place behind it. -/
def readRec (b : List UInt8) (p : Int) : Option (Rec × Int) :=
  let t := readText b p
  if t.2.2 = false then none
  else
    let q := Rdr.record { b := t.1.data.toList }
    if q.2.bad || decide (q.2.p ≠ t.1.size) || !(recMay q.1) then none else some (q.1, t.2.1)
def readRecs (b : List UInt8) : Nat → Int → List Rec × Int
  | 0, p => ([], p)
  | f + 1, p => match readRec b p with
    | none => ([], p)
    | some (r, q) => let t := readRecs b f q; (r :: t.1, t.2)
def readAll (b : List UInt8) : List Rec × Int := readRecs b (b.length + 1) 0

/-! ### tally, net -/
def tallyAdd (c : List Int) (i : Nat) (n : Int) : List Int := c.set i (min (c.getD i 0 + (if n < 0 ∨ 1099511627776 < n then 0 else n)) 1099511627776)

/-! ### window, cut, part -/
structure Win where
  count : Int
  size : Int
  epoch : Int := 0
  next : Int := 0
def winOpen (w : Win) : List Int := (List.range (min w.size (w.count - w.next)).toNat).map fun (i : Nat) => w.next + (i : Int)
def Win.ack (w : Win) (epoch next : Int) : Bool × Win :=
  if epoch < max w.epoch 1 then (false, w)
  else
    let n := min (max next 0) w.count
    if epoch = w.epoch ∧ n ≤ w.next then (false, w) else (true, { w with epoch := epoch, next := n })
def cutSize (chunk attempt : Int) : Int := if attempt % 2 ≠ 0 then chunk + 1 else chunk
def cutChunks (n size : Int) : Int := if n < 1 ∨ size < 1 then 0 else (n - 1) / size + 1
def cutChunk (ps : List Pr) (size seq : Int) : List Pr :=
  if seq < 0 ∨ cutChunks ps.length size ≤ seq then [] else (ps.drop (seq * size).toNat).take size.toNat
def keyNum (k : ByteArray) : Int := k.data.toList.foldl (fun h c => (31 * h + c.toNat) % 4294967296) 7
def partOf (k : ByteArray) (parts : Int) : Int := if parts < 1 then -1 else keyNum k % parts
def partOnly (ps : List Pr) (parts p : Int) : List Pr := ps.filter fun x => decide (partOf x.key parts = p)

/-! ### what a reducer, a worker, a master, a node are -/
structure Sp where
  merged : Bool := false
  pairs : List Pr := []
  told : Bool := false
  attempt : Int := 0
  count : Int := 0
abbrev Stg := List ((Int × Int) × List (List Pr))
structure Red where
  c : Cfg
  part : Int
  epoch : Int
  sp : List Sp := List.replicate 6 {}
  stage : Stg := []
  sets : List (List Int) := []
def Red.merged (r : Red) : List Int := ((List.range r.c.job.splits.length).filter fun n => (r.sp.getD n {}).merged).map fun (n : Nat) => (n : Int)
structure Mp where
  split : Int
  attempt : Int
  reason : Int
  out : List Pr
  wins : List Win
structure Wk where
  c : Cfg
  id : Int
  epoch : Int
  reds : List Red
  tasks : List Mp := []
  ended : Bool := false
structure MSp where
  asked : Int := 0
  try_ : Int := 0
  at_ : Int := 0
  won : Bool := false
  attempt : Int := 0
  chunks : List Int := []
structure Ms where
  c : Cfg
  now : Int := 0
  sp : List MSp
  ready : List Bool := [false, false, false, false]
  state : Int := 0
  reason : Int := 0
  round : Int := 0
  heard : List Int := List.replicate 8 0
inductive Mach where
  | master (m : Ms)
  | worker (w : Wk)
structure Nd where
  c : Cfg
  id : Int
  up : Bool
  disk : Dk
  held : List Ltr
  mach : Mach
end St
