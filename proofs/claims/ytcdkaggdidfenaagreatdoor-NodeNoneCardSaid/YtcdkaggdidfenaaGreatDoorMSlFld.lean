/- A part of the proof: contracts of functions of the given program, and the laws on memory that they lean on. -/
import Derived.Test.YtcdkaggdidfenaaGreatDoorMSlBytes
set_option linter.all false
namespace Go.SL
open Go Go.RowKit

/-- Where a struct's field lies. -/
class FieldOff (P : Program) (T : TypeId) (f : Nat) (j : outParam Nat) : Prop where
  run : ∀ (a : Addr) (w : World), (Instr.fieldAt T (.pointer (some a)) f).run P w = .ok (.pointer (some (a.add j))) w

/-- The address of a cell of element i of a slice. -/
@[irreducible] def elemFld (k : Nat) (v : Value) (i j : Nat) : Value := match v with
  | .slice (some a) _ _ => .pointer (some (a.add (i * k + j)))
  | _ => .pointer none
theorem elemFld_slice (k : Nat) (ad : Addr) (n c i j : Nat) : elemFld k (.slice (some ad) n c) i j = .pointer (some (ad.add (i * k + j))) := by unfold elemFld; rfl

section
variable {P : Program} {ops : Array Oper} {Q : Exit → Act → World → Prop} {a : Act} {w w0 : World} {rest : List Oper} {o : Oper} {As r : List HP}
variable {α : Type} {E : Enc α} {e : TypeId} {v : Value} {l : List α}

theorem run_fieldElem {T : TypeId} {f j i : Nat} (hf : FieldOff P T f j) (hr : RdSl E v l w) (hi : i < l.length) (w' : World) :
    (Instr.fieldAt T (elemPtr E.k v i) f).run P w' = .ok (elemFld E.k v i j) w' := by
  rcases hr with ⟨rfl, rfl⟩ | ⟨g, off, cap, rfl, _, _, hc⟩
  · simp at hi
  · rw [elemPtr_slice, elemFld_slice, hf.run]
    simp only [Addr.add_lit, Nat.add_assoc]
theorem run_fieldFld {T : TypeId} {f j j' i : Nat} (hf : FieldOff P T f j) (hr : RdSl E v l w) (hi : i < l.length) (w' : World) :
    (Instr.fieldAt T (elemFld E.k v i j') f).run P w' = .ok (elemFld E.k v i (j' + j)) w' := by
  rcases hr with ⟨rfl, rfl⟩ | ⟨g, off, cap, rfl, _, _, hc⟩
  · simp at hi
  · rw [elemFld_slice, elemFld_slice, hf.run]
    simp only [Addr.add_lit, Nat.add_assoc]

theorem wl_fieldElem {T : TypeId} {x : Operand} {f j i : Nat} (E : Enc α) (H : Sat w0 w As) (hop : o.op = .fieldAddr T x f) (hgd : Region.wanted o (yielded ops a.tmps) = true)
    (hx : a.eval x = elemPtr E.k v i) (hf : FieldOff P T f j) (hr : RdV E As v l) (hi : i < l.length)
    (k : wpList P ops Q rest (a.put o.dst (elemFld E.k v i j)) w) : wpList P ops Q (o :: rest) a w := by
  refine wl_of_wp hgd ?_
  have hrun := run_fieldElem hf (hr.get H) hi w
  unfold Oper.wp execOp
  simp only [hop, hx, hrun, Sem.run_bind, Sem.run_pure, Result.andThen_ok]
  exact k
theorem wl_fieldFld {T : TypeId} {x : Operand} {f j j' i : Nat} (E : Enc α) (H : Sat w0 w As) (hop : o.op = .fieldAddr T x f) (hgd : Region.wanted o (yielded ops a.tmps) = true)
    (hx : a.eval x = elemFld E.k v i j') (hf : FieldOff P T f j) (hr : RdV E As v l) (hi : i < l.length)
    (k : wpList P ops Q rest (a.put o.dst (elemFld E.k v i (j' + j))) w) : wpList P ops Q (o :: rest) a w := by
  refine wl_of_wp hgd ?_
  have hrun := run_fieldFld (j' := j') hf (hr.get H) hi w
  unfold Oper.wp execOp
  simp only [hop, hx, hrun, Sem.run_bind, Sem.run_pure, Result.andThen_ok]
  exact k

theorem cell_fld {i j : Nat} {y : α} {u : Value} {g off : Nat} (hc : ∀ j u, (E.all l)[j]? = some u → w.cell? ⟨g, off + j, none⟩ = some u) (hi : l[i]? = some y) (hj : (E.enc y)[j]? = some u) : w.cell? ⟨g, off + (i * E.k + j), none⟩ = some u := by
  have hjk : j < E.k := by rw [← E.len y]; exact (List.getElem?_eq_some_iff.1 hj).1
  exact hc _ _ ((E.get l i j y hi hjk).trans hj)

theorem run_elemFld {ty : TypeId} {i j : Nat} {y : α} {u : Value} (h1 : OneCell P ty) (hr : RdSl E v l w) (hi : l[i]? = some y) (hj : (E.enc y)[j]? = some u) :
    (Instr.loadAt ty (elemFld E.k v i j)).run P w = .ok u w := by
  rcases hr with ⟨rfl, rfl⟩ | ⟨g, off, cap, rfl, _, _, hc⟩
  · simp at hi
  · have hc' := cell_fld hc hi hj
    have hl : (load ⟨g, off + (i * E.k + j), none⟩).run P w = .ok u w := by simp [load, Sem.run, hc']
    rw [elemFld_slice, Addr.add_lit]
    simp only [Instr.loadAt, Instr.sureAddr, loadVar, Sem.run_bind, Sem.run_pure, Result.andThen_ok, h1.agg, Bool.false_eq_true, if_false, hl]
theorem run_elemFld_agg {ty : TypeId} {i j n : Nat} {y : α} {us : List Value} (h1 : AggOf P ty n) (hr : RdSl E v l w) (hi : l[i]? = some y) (hj : ((E.enc y).drop j).take n = us) (hn : us.length = n) :
    (Instr.loadAt ty (elemFld E.k v i j)).run P w = .ok (.agg us.toArray) w := by
  rcases hr with ⟨rfl, rfl⟩ | ⟨g, off, cap, rfl, _, _, hc⟩
  · simp at hi
  · have hrun : (loadCells ⟨g, off + (i * E.k + j), none⟩ us.length).run P w = .ok us.toArray w :=
      run_loadCells_list (P := P) w ⟨g, off + (i * E.k + j), none⟩ us (fun q u hq => by
        have hq' : (E.enc y)[j + q]? = some u := by
          rw [← hj, List.getElem?_take] at hq
          split at hq
          · rw [List.getElem?_drop] at hq; exact hq
          · cases hq
        have := cell_fld hc hi hq'
        rw [Addr.add_lit]
        rw [show off + (i * E.k + j) + q = off + (i * E.k + (j + q)) by omega]; exact this)
    rw [elemFld_slice, Addr.add_lit]
    rw [hn] at hrun
    simp only [Instr.loadAt, Instr.sureAddr, loadVar, Sem.run_bind, Sem.run_pure, Result.andThen_ok, h1.agg, if_true, h1.size, hrun]

theorem wl_elemFld {ty : TypeId} {x : Operand} {i j : Nat} {y : α} {u : Value} (E : Enc α) (H : Sat w0 w As) (hop : o.op = .load ty x) (hgd : Region.wanted o (yielded ops a.tmps) = true)
    (hx : a.eval x = elemFld E.k v i j) (h1 : OneCell P ty) (hr : RdV E As v l) (hi : l[i]? = some y) (hu : (E.enc y)[j]? = some u)
    (k : wpList P ops Q rest (a.put o.dst u) w) : wpList P ops Q (o :: rest) a w := by
  refine wl_of_wp hgd ?_
  have hrun := run_elemFld h1 (hr.get H) hi hu
  unfold Oper.wp execOp
  simp only [hop, hx, hrun, Sem.run_bind, Sem.run_pure, Result.andThen_ok]
  exact k
theorem wl_elemFld_agg {ty : TypeId} {x : Operand} {i j n : Nat} {y : α} {us : List Value} (E : Enc α) (H : Sat w0 w As) (hop : o.op = .load ty x) (hgd : Region.wanted o (yielded ops a.tmps) = true)
    (hx : a.eval x = elemFld E.k v i j) (h1 : AggOf P ty n) (hr : RdV E As v l) (hi : l[i]? = some y) (hu : ((E.enc y).drop j).take n = us) (hn : us.length = n)
    (k : wpList P ops Q rest (a.put o.dst (.agg us.toArray)) w) : wpList P ops Q (o :: rest) a w := by
  refine wl_of_wp hgd ?_
  have hrun := run_elemFld_agg h1 (hr.get H) hi hu hn
  unfold Oper.wp execOp
  simp only [hop, hx, hrun, Sem.run_bind, Sem.run_pure, Result.andThen_ok]
  exact k
end

section
variable {P : Program} {l0 : List Oper} {main : List Nat} {n : Nat} {S : List Chk} {L : Array Bool} {K : Act → World → Prop} {a : Act} {w w0 : World} {As : List HP} {oi : Oper} {i : Nat}
variable {α : Type} {E : Enc α} {v : Value} {l : List α}
theorem G_fieldElem {T : TypeId} {x : Operand} {f j q : Nat} (E : Enc α) (H : Sat w0 w As) (hi : l0[i]? = some oi) (hb : sideB l0 main L i = true) (hw : Region.wanted oi (yielded l0.toArray a.tmps) = true)
    (hop : oi.op = .fieldAddr T x f) (hx : a.eval x = elemPtr E.k v q) (hf : FieldOff P T f j) (hr : RdV E As v l) (hq : q < l.length)
    (h : G P l0 K main n S (L.setIfInBounds i true) (a.put oi.dst (elemFld E.k v q j)) w) : G P l0 K main (n + 1) S L a w := by
  refine G_pure hi hb hw (fun w' => ?_) h
  have hrun := run_fieldElem hf (hr.get H) hq w'
  simp only [execOp, hop, hx, hrun, Sem.run_bind, Sem.run_pure, Result.andThen_ok]
theorem G_fieldFld {T : TypeId} {x : Operand} {f j j' q : Nat} (E : Enc α) (H : Sat w0 w As) (hi : l0[i]? = some oi) (hb : sideB l0 main L i = true) (hw : Region.wanted oi (yielded l0.toArray a.tmps) = true)
    (hop : oi.op = .fieldAddr T x f) (hx : a.eval x = elemFld E.k v q j') (hf : FieldOff P T f j) (hr : RdV E As v l) (hq : q < l.length)
    (h : G P l0 K main n S (L.setIfInBounds i true) (a.put oi.dst (elemFld E.k v q (j' + j))) w) : G P l0 K main (n + 1) S L a w := by
  refine G_pure hi hb hw (fun w' => ?_) h
  have hrun := run_fieldFld (j' := j') hf (hr.get H) hq w'
  simp only [execOp, hop, hx, hrun, Sem.run_bind, Sem.run_pure, Result.andThen_ok]
theorem G_elemFld {ty : TypeId} {x : Operand} {q j : Nat} {y : α} {u : Value} (E : Enc α) (H : Sat w0 w As) (hi : l0[i]? = some oi) (hb : sideB l0 main L i = true) (hw : Region.wanted oi (yielded l0.toArray a.tmps) = true)
    (hop : oi.op = .load ty x) (hx : a.eval x = elemFld E.k v q j) (h1 : OneCell P ty) (hr : RdV E As v l) (hq : l[q]? = some y) (hu : (E.enc y)[j]? = some u)
    (h : G P l0 K main n ((i, RdSl E v l) :: S) (L.setIfInBounds i true) (a.put oi.dst u) w) : G P l0 K main (n + 1) S L a w := by
  refine G_take hi hb (.inl ⟨hw, fun w hs => ?_⟩) (hr.get H) h
  have hrun := run_elemFld h1 hs hq hu
  simp only [execOp, hop, hx, hrun, Sem.run_bind, Sem.run_pure, Result.andThen_ok]
theorem G_elemFld_agg {ty : TypeId} {x : Operand} {q j m : Nat} {y : α} {us : List Value} (E : Enc α) (H : Sat w0 w As) (hi : l0[i]? = some oi) (hb : sideB l0 main L i = true) (hw : Region.wanted oi (yielded l0.toArray a.tmps) = true)
    (hop : oi.op = .load ty x) (hx : a.eval x = elemFld E.k v q j) (h1 : AggOf P ty m) (hr : RdV E As v l) (hq : l[q]? = some y) (hu : ((E.enc y).drop j).take m = us) (hn : us.length = m)
    (h : G P l0 K main n ((i, RdSl E v l) :: S) (L.setIfInBounds i true) (a.put oi.dst (.agg us.toArray)) w) : G P l0 K main (n + 1) S L a w := by
  refine G_take hi hb (.inl ⟨hw, fun w hs => ?_⟩) (hr.get H) h
  have hrun := run_elemFld_agg h1 hs hq hu hn
  simp only [execOp, hop, hx, hrun, Sem.run_bind, Sem.run_pure, Result.andThen_ok]
end
end Go.SL
