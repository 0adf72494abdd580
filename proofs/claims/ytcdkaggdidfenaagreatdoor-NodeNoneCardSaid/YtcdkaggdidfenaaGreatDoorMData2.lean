/- A part of the proof: contracts of functions of the given program, and the laws on memory that they lean on. -/
import Derived.Test.YtcdkaggdidfenaaGreatDoorMZip
import Derived.Test.YtcdkaggdidfenaaGreatDoorMModel2
import Derived.Test.YtcdkaggdidfenaaGreatDoorMSlMap
set_option linter.all false
namespace Go.SL
open Go Go.RowKit St

instance (x : V1) : One1 x.v := ⟨x.one⟩

/-- A letter's cells. -/
structure LtrV where
  src : Int
  dst : Int
  kind : Int
  split : Int
  attempt : Int
  part : Int
  seq : Int
  next : Int
  epoch : Int
  reason : Int
  set : V1
  pairs : V1
abbrev ltrE : Enc LtrV := ⟨12, fun p => [.int .i64 p.src, .int .i64 p.dst, .int .i64 p.kind, .int .i64 p.split, .int .i64 p.attempt, .int .i64 p.part, .int .i64 p.seq, .int .i64 p.next, .int .i64 p.epoch, .int .i64 p.reason, p.set.v, p.pairs.v],
  fun _ => rfl, fun x u hu => by simp only [List.mem_cons, List.not_mem_nil, or_false] at hu; rcases hu with rfl | rfl | rfl | rfl | rfl | rfl | rfl | rfl | rfl | rfl | rfl | rfl <;> first | rfl | exact x.set.one | exact x.pairs.one, by omega⟩
instance {a b c d e f g h i j : Int} {s p : Value} [hs : One1 s] [hp : One1 p] : Dec ltrE [.int .i64 a, .int .i64 b, .int .i64 c, .int .i64 d, .int .i64 e, .int .i64 f, .int .i64 g, .int .i64 h, .int .i64 i, .int .i64 j, s, p] ⟨a, b, c, d, e, f, g, h, i, j, ⟨s, hs.one⟩, ⟨p, hp.one⟩⟩ := ⟨rfl⟩
@[reducible] def LtrV.ltr (x : LtrV) (s : List Int) (p : List Pr) : Ltr := ⟨x.src, x.dst, ⟨x.kind, x.split, x.attempt, x.part, x.seq, x.next, x.epoch, x.reason, s, p⟩⟩

/-- A record's cells. -/
structure RecV where
  kind : Int
  part : Int
  split : Int
  attempt : Int
  reason : Int
  set : V1
  pairs : V1
abbrev recE : Enc RecV := ⟨7, fun p => [.int .i64 p.kind, .int .i64 p.part, .int .i64 p.split, .int .i64 p.attempt, .int .i64 p.reason, p.set.v, p.pairs.v],
  fun _ => rfl, fun x u hu => by simp only [List.mem_cons, List.not_mem_nil, or_false] at hu; rcases hu with rfl | rfl | rfl | rfl | rfl | rfl | rfl <;> first | rfl | exact x.set.one | exact x.pairs.one, by omega⟩
instance {a b c d e : Int} {s p : Value} [hs : One1 s] [hp : One1 p] : Dec recE [.int .i64 a, .int .i64 b, .int .i64 c, .int .i64 d, .int .i64 e, s, p] ⟨a, b, c, d, e, ⟨s, hs.one⟩, ⟨p, hp.one⟩⟩ := ⟨rfl⟩
@[reducible] def RecV.rcd (x : RecV) (s : List Int) (p : List Pr) : Rec := ⟨x.kind, x.part, x.split, x.attempt, x.reason, s, p⟩

section
variable {w w0 : World} {As r : List HP}

def ownLtr (x : LtrV) (l : Ltr) : HP := .sep (.prop (l = x.ltr l.msg.set l.msg.pairs)) (.sep (ownL intE 3 x.set.v l.msg.set) (ownL pairE 133 x.pairs.v l.msg.pairs))
theorem ownLtr_iff {x : LtrV} {l : Ltr} : Sat w0 w (ownLtr x l :: As) ↔ l = x.ltr l.msg.set l.msg.pairs ∧ Sat w0 w (ownL intE 3 x.set.v l.msg.set :: ownL pairE 133 x.pairs.v l.msg.pairs :: As) := by
  rw [ownLtr, Sat.sep_iff, Sat.prop_iff, Sat.sep_iff]
def ownRec (x : RecV) (l : Rec) : HP := .sep (.prop (l = x.rcd l.set l.pairs)) (.sep (ownL intE 3 x.set.v l.set) (ownL pairE 133 x.pairs.v l.pairs))
theorem ownRec_iff {x : RecV} {l : Rec} : Sat w0 w (ownRec x l :: As) ↔ l = x.rcd l.set l.pairs ∧ Sat w0 w (ownL intE 3 x.set.v l.set :: ownL pairE 133 x.pairs.v l.pairs :: As) := by
  rw [ownRec, Sat.sep_iff, Sat.prop_iff, Sat.sep_iff]

/-- A slice of letters, all of it owned. -/
def ltrsHP (v : Value) (ls : List Ltr) : HP := .ex fun xs => .sep (ownL ltrE 51 v xs) (ownZ ownLtr xs ls)
theorem ltrsHP_iff {v : Value} {ls : List Ltr} : Sat w0 w (ltrsHP v ls :: As) ↔ ∃ xs, Sat w0 w (ownL ltrE 51 v xs :: ownZ ownLtr xs ls :: As) := by
  rw [ltrsHP, Sat.ex_iff]; exact ⟨fun ⟨x, h⟩ => ⟨x, Sat.sep_iff.1 h⟩, fun ⟨x, h⟩ => ⟨x, Sat.sep_iff.2 h⟩⟩
def recsHP (v : Value) (ls : List Rec) : HP := .ex fun xs => .sep (ownL recE 116 v xs) (ownZ ownRec xs ls)
theorem recsHP_iff {v : Value} {ls : List Rec} : Sat w0 w (recsHP v ls :: As) ↔ ∃ xs, Sat w0 w (ownL recE 116 v xs :: ownZ ownRec xs ls :: As) := by
  rw [recsHP, Sat.ex_iff]; exact ⟨fun ⟨x, h⟩ => ⟨x, Sat.sep_iff.1 h⟩, fun ⟨x, h⟩ => ⟨x, Sat.sep_iff.2 h⟩⟩
theorem ltrsHP_nil (H : Sat w0 w As) : Sat w0 w (ltrsHP (.slice none 0 0) [] :: As) := ltrsHP_iff.2 ⟨[], ownL_nil (ownZ_nil H)⟩
theorem recsHP_nil (H : Sat w0 w As) : Sat w0 w (recsHP (.slice none 0 0) [] :: As) := recsHP_iff.2 ⟨[], ownL_nil (ownZ_nil H)⟩
theorem ltrsHP_one {v : Value} {ls : List Ltr} (H : Sat w0 w (ltrsHP v ls :: As)) : v.oneCell' = true := by
  obtain ⟨xs, H⟩ := ltrsHP_iff.1 H; exact ownL_one H
theorem recsHP_one {v : Value} {ls : List Rec} (H : Sat w0 w (recsHP v ls :: As)) : v.oneCell' = true := by
  obtain ⟨xs, H⟩ := recsHP_iff.1 H; exact ownL_one H

/-- Records that are read. -/
structure RdRecW (x : RecV) (r : Rec) (w : World) : Prop where
  eq : r = x.rcd r.set r.pairs
  set : RdSl intE x.set.v r.set w
  pairs : RdSl pairE x.pairs.v r.pairs w
structure RdRecsW (v : Value) (xs : List RecV) (rs : List Rec) (w : World) : Prop where
  sl : RdSl recE v xs w
  len : xs.length = rs.length
  get : ∀ (i : Nat) (x : RecV) (r : Rec), xs[i]? = some x → rs[i]? = some r → RdRecW x r w
class RdRecs (As : List HP) (v : Value) (xs : outParam (List RecV)) (rs : outParam (List Rec)) : Prop where get : ∀ {w0 w : World}, Sat w0 w As → RdRecsW v xs rs w
section
variable {v : Value} {xs : List RecV} {rs : List Rec} {B : HP}
instance RdRecs.there [h : RdRecs As v xs rs] : RdRecs (B :: As) v xs rs := ⟨fun H => h.get H.drop⟩
instance (priority := 1500) RdRecs.nil : RdRecs As (.slice none 0 0) [] [] := ⟨fun _ => ⟨.inl ⟨rfl, rfl⟩, rfl, fun i x r hx => by simp at hx⟩⟩
instance (priority := 900) RdRecs.sl' [h : RdRecs As v xs rs] : RdV recE As v xs := ⟨fun H => (h.get H).sl⟩
theorem RdRecs.set' [h : RdRecs As v xs rs] {i : Nat} {x : RecV} {r : Rec} (hx : xs[i]? = some x) (hr : rs[i]? = some r) : RdV intE As x.set.v r.set := ⟨fun H => ((h.get H).get i x r hx hr).set⟩
theorem RdRecs.pairs' [h : RdRecs As v xs rs] {i : Nat} {x : RecV} {r : Rec} (hx : xs[i]? = some x) (hr : rs[i]? = some r) : RdV pairE As x.pairs.v r.pairs := ⟨fun H => ((h.get H).get i x r hx hr).pairs⟩
theorem RdRecs.eq' [h : RdRecs As v xs rs] {i : Nat} {x : RecV} {r : Rec} (hx : xs[i]? = some x) (hr : rs[i]? = some r) (H : Sat w0 w As) : r = x.rcd r.set r.pairs := ((h.get H).get i x r hx hr).eq
theorem RdRecs.len' [h : RdRecs As v xs rs] (H : Sat w0 w As) : xs.length = rs.length := (h.get H).len
theorem RdRecs.own (xs : List RecV) : RdRecs (ownL recE 116 v xs :: ownZ ownRec xs rs :: As) v xs rs := ⟨fun H => by
  refine ⟨ownL_read H, ownZ_len H.drop, fun i x r hx hr => ?_⟩
  have h := (ownZ_take hx hr H.drop)
  obtain ⟨h1, h2⟩ := ownRec_iff.1 h
  exact ⟨h1, ownL_read h2, ownL_read h2.drop⟩⟩
end

/-! ### a reducer -/
structure SpV where
  merged : Bool
  pairs : V1
  told : Bool
  attempt : Int
  count : Int
@[reducible] def SpV.sp (x : SpV) (p : List Pr) : Sp := ⟨x.merged, p, x.told, x.attempt, x.count⟩
def ownSp (x : SpV) (s : Sp) : HP := .sep (.prop (s = x.sp s.pairs)) (ownL pairE 133 x.pairs.v s.pairs)
theorem ownSp_iff {x : SpV} {s : Sp} : Sat w0 w (ownSp x s :: As) ↔ s = x.sp s.pairs ∧ Sat w0 w (ownL pairE 133 x.pairs.v s.pairs :: As) := by
  rw [ownSp, Sat.sep_iff, Sat.prop_iff]

def chunksHP (v : Value) (l : List (List Pr)) : HP := .ex fun xs => .sep (ownL v1E 47 v xs) (ownPs xs l)
def stageHP (b : Nat) (s : Stg) : HP := .ex fun (q : Nat × List ((Int × Int) × Value)) =>
  star [.pt b (.cells #[.map (some q.1)] 257 (0, 0)), mapHP int2K q.1 q.2, ownZ (fun kv e => .sep (.prop (kv.1 = e.1)) (chunksHP kv.2 e.2)) q.2 s]
theorem stageHP_iff {b : Nat} {s : Stg} : Sat w0 w (stageHP b s :: As) ↔ ∃ q : Nat × List ((Int × Int) × Value), Sat w0 w (.pt b (.cells #[.map (some q.1)] 257 (0, 0)) :: mapHP int2K q.1 q.2 :: ownZ (fun kv e => .sep (.prop (kv.1 = e.1)) (chunksHP kv.2 e.2)) q.2 s :: As) := by
  rw [stageHP, Sat.ex_iff]; exact exists_congr fun q => star_iff

def setsHP (v : Value) (l : List (List Int)) : HP := .ex fun xs => .sep (ownL v1E 24 v xs) (ownZ (fun (x : V1) s => ownL intE 3 x.v s) xs l)
theorem setsHP_iff {v : Value} {ls : List (List Int)} : Sat w0 w (setsHP v ls :: As) ↔ ∃ xs, Sat w0 w (ownL v1E 24 v xs :: ownZ (fun (x : V1) s => ownL intE 3 x.v s) xs ls :: As) := by
  rw [setsHP, Sat.ex_iff]; exact ⟨fun ⟨x, h⟩ => ⟨x, Sat.sep_iff.1 h⟩, fun ⟨x, h⟩ => ⟨x, Sat.sep_iff.2 h⟩⟩

@[reducible] def redCells (cv : CfgV) (c : Cfg) (part epoch : Int) (s0 s1 s2 s3 s4 s5 : SpV) (sb : Nat) (sv : Value) : Array Value :=
  #[cv.splits, .int .i64 c.job.parts, cv.map, cv.combine, cv.reduce, .int .i64 c.job.chunk, .int .i64 c.job.window, .int .i64 c.job.fuel, cv.marks, .int .i64 c.workers, .int .i64 c.tries, .int .i64 c.timeout,
    .int .i64 part, .int .i64 epoch,
    .bool s0.merged, s0.pairs.v, .bool s0.told, .int .i64 s0.attempt, .int .i64 s0.count, .bool s1.merged, s1.pairs.v, .bool s1.told, .int .i64 s1.attempt, .int .i64 s1.count,
    .bool s2.merged, s2.pairs.v, .bool s2.told, .int .i64 s2.attempt, .int .i64 s2.count, .bool s3.merged, s3.pairs.v, .bool s3.told, .int .i64 s3.attempt, .int .i64 s3.count,
    .bool s4.merged, s4.pairs.v, .bool s4.told, .int .i64 s4.attempt, .int .i64 s4.count, .bool s5.merged, s5.pairs.v, .bool s5.told, .int .i64 s5.attempt, .int .i64 s5.count,
    .pointer (some ⟨sb, 0, none⟩), sv]
structure RedV where
  cv : CfgV
  s0 : SpV
  s1 : SpV
  s2 : SpV
  s3 : SpV
  s4 : SpV
  s5 : SpV
  sb : Nat
  sv : Value
def redHP (b : Nat) (r : Red) : HP := .ex fun (q : RedV) =>
  star [.pt b (.cells (redCells q.cv r.c r.part r.epoch q.s0 q.s1 q.s2 q.s3 q.s4 q.s5 q.sb q.sv) 212 (0, 0)), jobHP q.cv r.c.job, ownZ ownSp [q.s0, q.s1, q.s2, q.s3, q.s4, q.s5] r.sp, stageHP q.sb r.stage, setsHP q.sv r.sets]
theorem redHP_iff {b : Nat} {r : Red} : Sat w0 w (redHP b r :: As) ↔ ∃ q : RedV, Sat w0 w (.pt b (.cells (redCells q.cv r.c r.part r.epoch q.s0 q.s1 q.s2 q.s3 q.s4 q.s5 q.sb q.sv) 212 (0, 0)) ::
    jobHP q.cv r.c.job :: ownZ ownSp [q.s0, q.s1, q.s2, q.s3, q.s4, q.s5] r.sp :: stageHP q.sb r.stage :: setsHP q.sv r.sets :: As) := by
  rw [redHP, Sat.ex_iff]; exact exists_congr fun q => star_iff

/-! ### a worker -/
structure WkV where
  cv : CfgV
  pv : Value
  mb : Nat
  bs : List Nat
  tv : Value
def tasksHP (v : Value) (l : List Mp) : HP := .prop (v = .slice none 0 0 ∧ l = [])
def ptrV (b : Nat) : Value := .pointer (some ⟨b, 0, none⟩)
def flagV (b : Bool) : Value := .int .u32 (if b then 1 else 0)
def wkHP (b : Nat) (x : Wk) : HP := .ex fun (q : WkV) =>
  star [.pt b (.cells #[q.cv.splits, .int .i64 x.c.job.parts, q.cv.map, q.cv.combine, q.cv.reduce, .int .i64 x.c.job.chunk, .int .i64 x.c.job.window, .int .i64 x.c.job.fuel, q.cv.marks, .int .i64 x.c.workers, .int .i64 x.c.tries, .int .i64 x.c.timeout,
      .int .i64 x.epoch, q.pv, .map (some q.mb), q.tv, flagV x.ended] 102 (0, 0)),
    jobHP q.cv x.c.job, ownL intE 3 q.pv (x.reds.map (·.part)), mapHP intK q.mb ((x.reds.map (·.part)).zip (q.bs.map ptrV)), ownZ redHP q.bs x.reds, tasksHP q.tv x.tasks]
theorem wkHP_iff {b : Nat} {x : Wk} : Sat w0 w (wkHP b x :: As) ↔ ∃ q : WkV, Sat w0 w (.pt b (.cells #[q.cv.splits, .int .i64 x.c.job.parts, q.cv.map, q.cv.combine, q.cv.reduce, .int .i64 x.c.job.chunk, .int .i64 x.c.job.window, .int .i64 x.c.job.fuel, q.cv.marks, .int .i64 x.c.workers, .int .i64 x.c.tries, .int .i64 x.c.timeout,
      .int .i64 x.epoch, q.pv, .map (some q.mb), q.tv, flagV x.ended] 102 (0, 0)) ::
    jobHP q.cv x.c.job :: ownL intE 3 q.pv (x.reds.map (·.part)) :: mapHP intK q.mb ((x.reds.map (·.part)).zip (q.bs.map ptrV)) :: ownZ redHP q.bs x.reds :: tasksHP q.tv x.tasks :: As) := by
  rw [wkHP, Sat.ex_iff]; exact exists_congr fun q => star_iff

/-! ### counters, a master -/
def tallyHP (b : Nat) (c : List Int) : HP := .ex fun (q : Int × Int × Int × Int × Int × Int × Int × Int) =>
  star [.prop (c = [q.1, q.2.1, q.2.2.1, q.2.2.2.1, q.2.2.2.2.1, q.2.2.2.2.2.1, q.2.2.2.2.2.2.1, q.2.2.2.2.2.2.2]),
    .pt b (.cells #[.int .i64 q.1, .int .i64 q.2.1, .int .i64 q.2.2.1, .int .i64 q.2.2.2.1, .int .i64 q.2.2.2.2.1, .int .i64 q.2.2.2.2.2.1, .int .i64 q.2.2.2.2.2.2.1, .int .i64 q.2.2.2.2.2.2.2] 183 (0, 0))]
theorem tallyHP_iff {b : Nat} {c : List Int} : Sat w0 w (tallyHP b c :: As) ↔ ∃ c0 c1 c2 c3 c4 c5 c6 c7, c = [c0, c1, c2, c3, c4, c5, c6, c7] ∧
    Sat w0 w (.pt b (.cells #[.int .i64 c0, .int .i64 c1, .int .i64 c2, .int .i64 c3, .int .i64 c4, .int .i64 c5, .int .i64 c6, .int .i64 c7] 183 (0, 0)) :: As) := by
  rw [tallyHP, Sat.ex_iff]
  constructor
  · rintro ⟨⟨c0, c1, c2, c3, c4, c5, c6, c7⟩, h⟩
    have h := star_iff.1 h
    obtain ⟨h1, h⟩ := Sat.prop_iff.1 h
    exact ⟨c0, c1, c2, c3, c4, c5, c6, c7, h1, h⟩
  · rintro ⟨c0, c1, c2, c3, c4, c5, c6, c7, h1, h⟩
    exact ⟨(c0, c1, c2, c3, c4, c5, c6, c7), star_iff.2 (Sat.prop_iff.2 ⟨h1, h⟩)⟩

structure MSpV where
  asked : Int
  try_ : Int
  at_ : Int
  won : Bool
  attempt : Int
  chunks : V1
@[reducible] def MSpV.sp (x : MSpV) (p : List Int) : MSp := ⟨x.asked, x.try_, x.at_, x.won, x.attempt, p⟩
abbrev mspE : Enc MSpV := ⟨6, fun p => [.int .i64 p.asked, .int .i64 p.try_, .int .i64 p.at_, .bool p.won, .int .i64 p.attempt, p.chunks.v],
  fun _ => rfl, fun x u hu => by simp only [List.mem_cons, List.not_mem_nil, or_false] at hu; rcases hu with rfl | rfl | rfl | rfl | rfl | rfl <;> first | rfl | exact x.chunks.one, by omega⟩
instance {a b c e : Int} {d : Bool} {s : Value} [hs : One1 s] : Dec mspE [.int .i64 a, .int .i64 b, .int .i64 c, .bool d, .int .i64 e, s] ⟨a, b, c, d, e, ⟨s, hs.one⟩⟩ := ⟨rfl⟩
def ownMSp (x : MSpV) (s : MSp) : HP := .sep (.prop (s = x.sp s.chunks)) (ownL intE 3 x.chunks.v s.chunks)
theorem ownMSp_iff {x : MSpV} {s : MSp} : Sat w0 w (ownMSp x s :: As) ↔ s = x.sp s.chunks ∧ Sat w0 w (ownL intE 3 x.chunks.v s.chunks :: As) := by
  rw [ownMSp, Sat.sep_iff, Sat.prop_iff]
structure MsV where
  cv : CfgV
  sv : Value
  xs : List MSpV
  r0 : Bool
  r1 : Bool
  r2 : Bool
  r3 : Bool
  tb : Nat
def msHP (b : Nat) (x : Ms) : HP := .ex fun (q : MsV) =>
  star [.prop (x.ready = [q.r0, q.r1, q.r2, q.r3]), .pt b (.cells #[q.cv.splits, .int .i64 x.c.job.parts, q.cv.map, q.cv.combine, q.cv.reduce, .int .i64 x.c.job.chunk, .int .i64 x.c.job.window, .int .i64 x.c.job.fuel, q.cv.marks, .int .i64 x.c.workers, .int .i64 x.c.tries, .int .i64 x.c.timeout,
      .int .i64 x.now, q.sv, .bool q.r0, .bool q.r1, .bool q.r2, .bool q.r3, .int .i64 x.state, .int .i64 x.reason, .int .i64 x.round, .pointer (some ⟨q.tb, 0, none⟩)] 153 (0, 0)),
    jobHP q.cv x.c.job, ownL mspE 157 q.sv q.xs, ownZ ownMSp q.xs x.sp, tallyHP q.tb x.heard]
theorem msHP_iff {b : Nat} {x : Ms} : Sat w0 w (msHP b x :: As) ↔ ∃ q : MsV, Sat w0 w (.prop (x.ready = [q.r0, q.r1, q.r2, q.r3]) :: .pt b (.cells #[q.cv.splits, .int .i64 x.c.job.parts, q.cv.map, q.cv.combine, q.cv.reduce, .int .i64 x.c.job.chunk, .int .i64 x.c.job.window, .int .i64 x.c.job.fuel, q.cv.marks, .int .i64 x.c.workers, .int .i64 x.c.tries, .int .i64 x.c.timeout,
      .int .i64 x.now, q.sv, .bool q.r0, .bool q.r1, .bool q.r2, .bool q.r3, .int .i64 x.state, .int .i64 x.reason, .int .i64 x.round, .pointer (some ⟨q.tb, 0, none⟩)] 153 (0, 0)) ::
    jobHP q.cv x.c.job :: ownL mspE 157 q.sv q.xs :: ownZ ownMSp q.xs x.sp :: tallyHP q.tb x.heard :: As) := by
  rw [msHP, Sat.ex_iff]; exact exists_congr fun q => star_iff

/-! ### a node -/
structure NdV where
  cv : CfgV
  db : Nat
  hv : Value
  mb : Nat
def machHP (b : Nat) : Mach → HP
  | .master m => msHP b m
  | .worker x => wkHP b x
def Mach.mp (b : Nat) : Mach → Value
  | .master _ => .pointer (some ⟨b, 0, none⟩)
  | .worker _ => .pointer none
def Mach.wp (b : Nat) : Mach → Value
  | .master _ => .pointer none
  | .worker _ => .pointer (some ⟨b, 0, none⟩)
@[reducible] def ndCells (cv : CfgV) (c : Cfg) (id : Int) (up : Bool) (d h m x : Value) : Array Value :=
  #[cv.splits, .int .i64 c.job.parts, cv.map, cv.combine, cv.reduce, .int .i64 c.job.chunk, .int .i64 c.job.window, .int .i64 c.job.fuel, cv.marks, .int .i64 c.workers, .int .i64 c.tries, .int .i64 c.timeout,
    .int .i64 id, .bool up, d, h, m, x]
def ndHP (b : Nat) (n : Nd) : HP := .ex fun (q : NdV) =>
  star [.pt b (.cells (ndCells q.cv n.c n.id n.up (.pointer (some ⟨q.db, 0, none⟩)) q.hv (Mach.mp q.mb n.mach) (Mach.wp q.mb n.mach)) 92 (0, 0)),
    jobHP q.cv n.c.job, diskHP q.db n.disk, ltrsHP q.hv n.held, machHP q.mb n.mach]
theorem ndHP_iff {b : Nat} {n : Nd} : Sat w0 w (ndHP b n :: As) ↔ ∃ q : NdV, Sat w0 w (.pt b (.cells (ndCells q.cv n.c n.id n.up (.pointer (some ⟨q.db, 0, none⟩)) q.hv (Mach.mp q.mb n.mach) (Mach.wp q.mb n.mach)) 92 (0, 0)) ::
    jobHP q.cv n.c.job :: diskHP q.db n.disk :: ltrsHP q.hv n.held :: machHP q.mb n.mach :: As) := by
  rw [ndHP, Sat.ex_iff]; exact exists_congr fun q => star_iff
end
end Go.SL
