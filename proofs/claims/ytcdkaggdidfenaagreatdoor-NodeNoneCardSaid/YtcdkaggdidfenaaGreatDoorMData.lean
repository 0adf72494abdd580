/- A part of the proof: contracts of functions of the given program, and the laws on memory that they lean on. -/
import Derived.Test.YtcdkaggdidfenaaGreatDoorMSlBytes
set_option linter.all false
namespace St

/-- A pair. -/
structure Pr where
  key : ByteArray
  val : ByteArray
/-- An instruction. -/
structure In where
  op : Int
  a : Int
  s : ByteArray
structure Job where
  splits : List (List Pr)
  parts : Int
  map : List In
  combine : List In
  reduce : List In
  chunk : Int
  window : Int
  fuel : Int
  marks : List Int
structure Cfg where
  job : Job
  workers : Int
  tries : Int
  timeout : Int
structure Rec where
  kind : Int
  part : Int
  split : Int
  attempt : Int
  reason : Int
  set : List Int
  pairs : List Pr
structure Msg where
  kind : Int := 0
  split : Int := 0
  attempt : Int := 0
  part : Int := 0
  seq : Int := 0
  next : Int := 0
  epoch : Int := 0
  reason : Int := 0
  set : List Int := []
  pairs : List Pr := []
structure Ltr where
  src : Int := 0
  dst : Int := 0
  msg : Msg := {}
structure Ev where
  kind : Int
  node : Int
  x : Int

end St

namespace Go.SL
open Go Go.RowKit St

abbrev pairE : Enc Pr := ⟨2, fun p => [.string p.key, .string p.val], fun _ => rfl, fun x u hu => by simp at hu; rcases hu with rfl | rfl <;> rfl, by omega⟩
abbrev insE : Enc In := ⟨3, fun p => [.int .i64 p.op, .int .i64 p.a, .string p.s], fun _ => rfl, fun x u hu => by simp at hu; rcases hu with rfl | rfl | rfl <;> rfl, by omega⟩
abbrev evE : Enc Ev := ⟨3, fun p => [.int .i64 p.kind, .int .i64 p.node, .int .i64 p.x], fun _ => rfl, fun x u hu => by simp at hu; rcases hu with rfl | rfl | rfl <;> rfl, by omega⟩

instance {a b : ByteArray} : Dec pairE [.string a, .string b] ⟨a, b⟩ := ⟨rfl⟩
instance {a b : Int} {s : ByteArray} : Dec insE [.int .i64 a, .int .i64 b, .string s] ⟨a, b, s⟩ := ⟨rfl⟩
instance {a b c : Int} : Dec evE [.int .i64 a, .int .i64 b, .int .i64 c] ⟨a, b, c⟩ := ⟨rfl⟩

/-- The slices of a configuration. -/
structure CfgV where
  splits : Value
  svs : List V1
  map : Value
  combine : Value
  reduce : Value
  marks : Value

@[reducible] def jobCells (cv : CfgV) (j : Job) : List Value :=
  [cv.splits, .int .i64 j.parts, cv.map, cv.combine, cv.reduce, .int .i64 j.chunk, .int .i64 j.window, .int .i64 j.fuel, cv.marks]
@[reducible] def cfgCells (cv : CfgV) (c : Cfg) : List Value :=
  [cv.splits, .int .i64 c.job.parts, cv.map, cv.combine, cv.reduce, .int .i64 c.job.chunk, .int .i64 c.job.window, .int .i64 c.job.fuel, cv.marks, .int .i64 c.workers, .int .i64 c.tries, .int .i64 c.timeout]

/-- Slices of slices of pairs. -/
structure RdPs (svs : List V1) (ss : List (List Pr)) (w : World) : Prop where
  len : svs.length = ss.length
  get : ∀ (i : Nat) (x : V1) (y : List Pr), svs[i]? = some x → ss[i]? = some y → RdSl pairE x.v y w

structure RdJobW (cv : CfgV) (j : Job) (w : World) : Prop where
  splits : RdSl v1E cv.splits cv.svs w
  each : RdPs cv.svs j.splits w
  map : RdSl insE cv.map j.map w
  combine : RdSl insE cv.combine j.combine w
  reduce : RdSl insE cv.reduce j.reduce w
  marks : RdSl intE cv.marks j.marks w

theorem RdPs.same {svs : List V1} {ss : List (List Pr)} {w w' : World} (h : RdPs svs ss w) (hc : ∀ a u, w.cell? a = some u → w'.cell? a = some u) : RdPs svs ss w' :=
  ⟨h.len, fun i x y hx hy => (h.get i x y hx hy).same hc⟩
theorem RdJobW.same {cv : CfgV} {j : Job} {w w' : World} (h : RdJobW cv j w) (hc : ∀ a u, w.cell? a = some u → w'.cell? a = some u) : RdJobW cv j w' :=
  ⟨h.splits.same hc, h.each.same hc, h.map.same hc, h.combine.same hc, h.reduce.same hc, h.marks.same hc⟩

class RdJob (As : List HP) (cv : CfgV) (j : outParam Job) : Prop where get : ∀ {w0 w : World}, Sat w0 w As → RdJobW cv j w
section
variable {As : List HP} {cv : CfgV} {j : Job} {B : HP}
instance RdJob.there [h : RdJob As cv j] : RdJob (B :: As) cv j := ⟨fun H => h.get H.drop⟩
instance (priority := 900) RdJob.rsplits [h : RdJob As cv j] : RdV v1E As cv.splits cv.svs := ⟨fun H => (h.get H).splits⟩
instance (priority := 900) RdJob.rmap [h : RdJob As cv j] : RdV insE As cv.map j.map := ⟨fun H => (h.get H).map⟩
instance (priority := 900) RdJob.rcombine [h : RdJob As cv j] : RdV insE As cv.combine j.combine := ⟨fun H => (h.get H).combine⟩
instance (priority := 900) RdJob.rreduce [h : RdJob As cv j] : RdV insE As cv.reduce j.reduce := ⟨fun H => (h.get H).reduce⟩
instance (priority := 900) RdJob.rmarks [h : RdJob As cv j] : RdV intE As cv.marks j.marks := ⟨fun H => (h.get H).marks⟩
theorem RdJob.rsplit [h : RdJob As cv j] {i : Nat} {x : V1} {y : List Pr} (hx : cv.svs[i]? = some x) (hy : j.splits[i]? = some y) : RdV pairE As x.v y :=
  ⟨fun H => (h.get H).each.get i x y hx hy⟩
end

/-- All of a list. -/
def star : List HP → HP
  | [] => .prop True
  | A :: As => .sep A (star As)

theorem star_iff {w0 w : World} {L As : List HP} : Sat w0 w (star L :: As) ↔ Sat w0 w (L ++ As) := by
  induction L generalizing As with
  | nil => simp [star, Sat.prop_iff]
  | cons A L ih =>
    rw [star, Sat.sep_iff]
    constructor
    · intro h
      have h1 := h.perm (.swap _ _ _)
      have h2 := (ih (As := A :: As)).1 h1
      exact h2.perm (by simp only [List.cons_append]; exact (List.perm_middle (a := A) (l₁ := L) (l₂ := As)))
    · intro h
      have h1 : Sat w0 w (L ++ A :: As) := h.perm (by simp only [List.cons_append]; exact (List.perm_middle (a := A) (l₁ := L) (l₂ := As)).symm)
      exact ((ih (As := A :: As)).2 h1).perm (.swap _ _ _)

/-- Owned slices of pairs, one for each. -/
def ownPs (svs : List V1) (ss : List (List Pr)) : HP := .sep (.prop (svs.length = ss.length)) (star ((svs.zip ss).map fun p => ownL pairE 133 p.1.v p.2))

theorem Sat.of_mem {w0 w : World} {A : HP} {L As : List HP} (h : Sat w0 w (L ++ As)) (hm : A ∈ L) : Sat w0 w (A :: As) := by
  obtain ⟨s, t, rfl⟩ := List.append_of_mem hm
  have h1 : Sat w0 w (A :: (s ++ (t ++ As))) := h.perm (by rw [List.append_assoc, List.cons_append]; exact List.perm_middle)
  have h2 : Sat w0 w ((s ++ t) ++ (A :: As)) := h1.perm (by rw [← List.append_assoc]; exact (List.perm_middle (a := A) (l₁ := s ++ t) (l₂ := As)).symm)
  have : ∀ (l Bs : List HP), Sat w0 w (l ++ Bs) → Sat w0 w Bs := by
    intro l
    induction l with
    | nil => exact fun _ h => h
    | cons B l ih => exact fun Bs h => ih Bs h.drop
  exact this _ _ h2

theorem ownPs_nil {w0 w : World} {As : List HP} (H : Sat w0 w As) : Sat w0 w (ownPs [] [] :: As) := Sat.sep_iff.2 (Sat.prop_iff.2 ⟨rfl, star_iff.2 H⟩)

theorem ownPs_snoc {w0 w : World} {As : List HP} {a : List V1} {b : List (List Pr)} {x : V1} {y : List Pr} (H : Sat w0 w (ownL pairE 133 x.v y :: ownPs a b :: As)) : Sat w0 w (ownPs (a ++ [x]) (b ++ [y]) :: As) := by
  have H := Sat.sep_iff.1 (H.perm (.swap _ _ _))
  obtain ⟨hl, H⟩ := Sat.prop_iff.1 H
  have H := star_iff.1 H
  refine Sat.sep_iff.2 (Sat.prop_iff.2 ⟨by simp [hl], star_iff.2 ?_⟩)
  rw [List.zip_append hl, List.map_append, List.append_assoc]
  exact H

theorem ownPs_read {w0 w : World} {svs : List V1} {ss : List (List Pr)} {As : List HP} (H : Sat w0 w (ownPs svs ss :: As)) : RdPs svs ss w := by
  obtain ⟨hl, H⟩ := Sat.prop_iff.1 (Sat.sep_iff.1 H)
  refine ⟨hl, fun i x y hx hy => ?_⟩
  have hm : ownL pairE 133 x.v y ∈ (svs.zip ss).map fun p => ownL pairE 133 p.1.v p.2 :=
    List.mem_map.2 ⟨(x, y), List.mem_of_getElem? (by rw [List.getElem?_zip_eq_some]; exact ⟨hx, hy⟩), rfl⟩
  exact ownL_read ((star_iff.1 H).of_mem hm)

/-- A configuration of one's own. -/
def jobHP (cv : CfgV) (j : Job) : HP :=
  .sep (ownL v1E 47 cv.splits cv.svs) (.sep (ownPs cv.svs j.splits) (.sep (ownL insE 135 cv.map j.map) (.sep (ownL insE 135 cv.combine j.combine) (.sep (ownL insE 135 cv.reduce j.reduce) (ownL intE 3 cv.marks j.marks)))))

theorem jobHP_iff {w0 w : World} {cv : CfgV} {j : Job} {As : List HP} : Sat w0 w (jobHP cv j :: As) ↔
    Sat w0 w (ownL v1E 47 cv.splits cv.svs :: ownPs cv.svs j.splits :: ownL insE 135 cv.map j.map :: ownL insE 135 cv.combine j.combine :: ownL insE 135 cv.reduce j.reduce :: ownL intE 3 cv.marks j.marks :: As) := by
  constructor
  · intro H
    have H := Sat.sep_iff.1 H
    have H := (Sat.sep_iff.1 (H.perm (.swap _ _ _))).perm (.swap _ _ _)
    have H := Sat.sep_iff.1 (H.ent : Sat w0 w (.sep (ownL insE 135 cv.map j.map) (.sep (ownL insE 135 cv.combine j.combine) (.sep (ownL insE 135 cv.reduce j.reduce) (ownL intE 3 cv.marks j.marks))) :: ownL v1E 47 cv.splits cv.svs :: ownPs cv.svs j.splits :: As))
    have H := Sat.sep_iff.1 (H.perm (.swap _ _ _))
    have H := Sat.sep_iff.1 (H.perm (.swap _ _ _))
    exact H.ent
  · intro H
    have H := Sat.sep_iff.2 (H.ent : Sat w0 w (ownL insE 135 cv.reduce j.reduce :: ownL intE 3 cv.marks j.marks :: ownL v1E 47 cv.splits cv.svs :: ownPs cv.svs j.splits :: ownL insE 135 cv.map j.map :: ownL insE 135 cv.combine j.combine :: As))
    have H := Sat.sep_iff.2 (H.ent : Sat w0 w (ownL insE 135 cv.combine j.combine :: .sep (ownL insE 135 cv.reduce j.reduce) (ownL intE 3 cv.marks j.marks) :: ownL v1E 47 cv.splits cv.svs :: ownPs cv.svs j.splits :: ownL insE 135 cv.map j.map :: As))
    have H := Sat.sep_iff.2 (H.ent : Sat w0 w (ownL insE 135 cv.map j.map :: .sep (ownL insE 135 cv.combine j.combine) (.sep (ownL insE 135 cv.reduce j.reduce) (ownL intE 3 cv.marks j.marks)) :: ownL v1E 47 cv.splits cv.svs :: ownPs cv.svs j.splits :: As))
    have H := Sat.sep_iff.2 (H.ent : Sat w0 w (ownPs cv.svs j.splits :: .sep (ownL insE 135 cv.map j.map) (.sep (ownL insE 135 cv.combine j.combine) (.sep (ownL insE 135 cv.reduce j.reduce) (ownL intE 3 cv.marks j.marks))) :: ownL v1E 47 cv.splits cv.svs :: As))
    exact Sat.sep_iff.2 H.ent

instance (priority := 1500) RdJob.own {cv : CfgV} {j : Job} {As : List HP} : RdJob (jobHP cv j :: As) cv j := ⟨fun H => by
  have H := jobHP_iff.1 H
  exact ⟨ownL_read H, ownPs_read H.drop, ownL_read H.drop.drop, ownL_read H.drop.drop.drop, ownL_read H.drop.drop.drop.drop, ownL_read H.drop.drop.drop.drop.drop⟩⟩

end Go.SL

namespace St
structure Dk where
  b : List UInt8 := []
  n : Int := 0
def Dk.ok (d : Dk) : Prop := 0 ≤ d.n ∧ d.n ≤ d.b.length
def Dk.cut (d : Dk) (n : Int) : Dk := if 0 ≤ n ∧ n ≤ d.b.length then ⟨d.b.take n.toNat, n⟩ else d
def Dk.append (d : Dk) (l : List UInt8) : Dk := { d with b := d.b ++ l }
def Dk.sync (d : Dk) : Dk := { d with n := d.b.length }
def Dk.unsynced (d : Dk) : Int := d.b.length - d.n
def Dk.crash (d : Dk) (keep : Int) : Dk := d.cut (d.n + keep % 18446744073709551616 % (d.unsynced + 1))
end St
namespace Go.SL
open Go Go.RowKit St
def diskHP (b : Nat) (d : Dk) : HP := .ex fun v => .sep (.pt b (.cells #[v, .int .i64 d.n] 108 (0, 0))) (ownL byteE 5 v d.b)
theorem diskHP_iff {w0 w : World} {b : Nat} {d : Dk} {As : List HP} : Sat w0 w (diskHP b d :: As) ↔ ∃ v, Sat w0 w (.pt b (.cells #[v, .int .i64 d.n] 108 (0, 0)) :: ownL byteE 5 v d.b :: As) := by
  rw [diskHP, Sat.ex_iff]
  exact ⟨fun ⟨v, h⟩ => ⟨v, Sat.sep_iff.1 h⟩, fun ⟨v, h⟩ => ⟨v, Sat.sep_iff.2 h⟩⟩
end Go.SL
