/- A part of the proof: contracts of functions of the given program, and the laws on memory that they lean on. -/
import Derived.BigGuardPart
import Derived.Test.YtcdkaggdidfenaaGreatDoorMSl
set_option linter.all false
namespace Go.SL
open Go Go.RowKit

/-- A value of one cell, of whatever kind. -/
class One1 (u : Value) : Prop where one : u.oneCell' = true
instance {k : IntKind} {n : Int} : One1 (.int k n) := ⟨rfl⟩
instance {s : ByteArray} : One1 (.string s) := ⟨rfl⟩
instance {b : Bool} : One1 (.bool b) := ⟨rfl⟩
instance {a : Option Addr} : One1 (.pointer a) := ⟨rfl⟩
instance {a : Option Addr} {n c : Nat} : One1 (.slice a n c) := ⟨rfl⟩

class Ones (us : List Value) : Prop where all : ∀ u ∈ us, u.oneCell' = true
instance : Ones [] := ⟨fun _ h => by cases h⟩
instance {u : Value} {us : List Value} [h : One1 u] [k : Ones us] : Ones (u :: us) := ⟨fun x hx => by
  rcases List.mem_cons.1 hx with rfl | hx
  · exact h.one
  · exact k.all x hx⟩

class OneCell (P : Program) (ty : TypeId) : Prop where
  agg : ∀ w, (isAgg ty).run P w = .ok false w
  size : ∀ w, (sizeOf ty).run P w = .ok 1 w

class AggOf (P : Program) (ty : TypeId) (n : outParam Nat) : Prop where
  agg : ∀ w, (isAgg ty).run P w = .ok true w
  size : ∀ w, (sizeOf ty).run P w = .ok n w

class ZeroOf (P : Program) (ty : TypeId) (z : outParam Value) : Prop where
  run : ∀ w, (zeroValue ty).run P w = .ok z w

@[go_sem ↓] theorem run_min_int (P : Program) (w : World) (ts : Array TypeId) (t : TypeId) (k k' : IntKind) (x y : Int) : (Builtin.min_ ts t #[.int k x, .int k' y]).run P w = .ok (.int k (min x y)) w := by
  simp [Builtin.min_, Builtin.min2]; omega
@[go_sem ↓] theorem run_max_int (P : Program) (w : World) (ts : Array TypeId) (t : TypeId) (k k' : IntKind) (x y : Int) : (Builtin.max_ ts t #[.int k x, .int k' y]).run P w = .ok (.int k (max x y)) w := by
  simp [Builtin.max_, Builtin.max2]; omega

section
variable {P : Program} {ops : Array Oper} {Q : Exit → Act → World → Prop} {a : Act} {w w0 : World} {rest : List Oper} {o : Oper} {As r : List HP}
variable {b off : Nat} {c : Array Value} {T ty : TypeId} {fr : Nat × Nat}

theorem wl_of_wp (hgd : Region.wanted o (yielded ops a.tmps) = true) (h : o.wp P a w (wpList P ops Q rest) Q) : wpList P ops Q (o :: rest) a w := by
  unfold wpList; rw [if_pos hgd]; exact .inl h

theorem cell_of_heap {i : Nat} (h : w.heap[b]? = some (.cells c T fr)) : w.cell? ⟨b, i, none⟩ = c[i]? := by simp [World.cell?, h]

/-- A load of one cell. -/
theorem wl_load {x : Operand} {v : Value} (H : Sat w0 w As) (hop : o.op = .load ty x) (hgd : Region.wanted o (yielded ops a.tmps) = true)
    (hx : a.eval x = .pointer (some ⟨b, off, none⟩)) (h1 : OneCell P ty) (hr : Rd b As (.cells c T fr)) (hv : c.toList[off]? = some v)
    (k : wpList P ops Q rest (a.put o.dst v) w) : wpList P ops Q (o :: rest) a w := by
  refine wl_of_wp hgd ?_
  have hc : w.cell? ⟨b, off, none⟩ = some v := (cell_of_heap (hr.get H)).trans (by rw [← Array.getElem?_toList]; exact hv)
  have hl : (load ⟨b, off, none⟩).run P w = .ok v w := by simp [load, Sem.run, hc]
  unfold Oper.wp execOp
  simp only [hop, hx, Instr.loadAt, Instr.sureAddr, loadVar, Sem.run_bind, Sem.run_pure, Result.andThen_ok, h1.agg, Bool.false_eq_true, if_false, hl]
  exact k

/-- n cells from off on. -/
def cut (c : Array Value) (off n : Nat) : List Value := (c.toList.drop off).take n

theorem cut_get {c : Array Value} {off n j : Nat} {u : Value} (h : (cut c off n)[j]? = some u) : c[off + j]? = some u := by
  unfold cut at h
  rw [List.getElem?_take] at h
  split at h
  · rw [List.getElem?_drop] at h; simpa using h
  · cases h

theorem cut_len {c : Array Value} {off n : Nat} (h : off + n ≤ c.size) : (cut c off n).length = n := by simp [cut]; omega

/-- A load of several cells (a struct, an array). -/
theorem wl_load_agg {x : Operand} {n : Nat} (H : Sat w0 w As) (hop : o.op = .load ty x) (hgd : Region.wanted o (yielded ops a.tmps) = true)
    (hx : a.eval x = .pointer (some ⟨b, off, none⟩)) (h1 : AggOf P ty n) (hr : Rd b As (.cells c T fr)) (hl : off + n ≤ c.size)
    (k : wpList P ops Q rest (a.put o.dst (.agg (cut c off n).toArray)) w) : wpList P ops Q (o :: rest) a w := by
  refine wl_of_wp hgd ?_
  have hrun : (loadCells ⟨b, off, none⟩ (cut c off n).length).run P w = .ok (cut c off n).toArray w :=
    run_loadCells_list (P := P) w ⟨b, off, none⟩ (cut c off n) (fun j v hj => by
      rw [Addr.add_lit, cell_of_heap (hr.get H)]; exact cut_get hj)
  rw [cut_len hl] at hrun
  unfold Oper.wp execOp
  simp only [hop, hx, Instr.loadAt, Instr.sureAddr, loadVar, Sem.run_bind, Sem.run_pure, Result.andThen_ok, h1.agg, if_true, h1.size, hrun]
  exact k

/-- A store of one cell. -/
theorem wl_store {x y : Operand} (H : Sat w0 w As) (hop : o.op = .store ty x y) (hgd : Region.wanted o (yielded ops a.tmps) = true)
    (hx : a.eval x = .pointer (some ⟨b, off, none⟩)) (h1 : OneCell P ty) (hr : HasPt b As (.cells c T (0, 0)) r) (hoff : off < c.size)
    {v : Value} (hy : a.eval y = v) (h1v : One1 v)
    (k : ∀ w', Sat w0 w' (.pt b (.cells (c.setIfInBounds off v) T (0, 0)) :: r) → wpList P ops Q rest (a.put o.dst undef) w') : wpList P ops Q (o :: rest) a w := by
  refine wl_of_wp hgd ?_
  have H' := H.perm hr.perm
  have hb := H'.pt
  have hc : w.cell? ⟨b, off, none⟩ = some (c[off]) := by rw [cell_of_heap hb]; simp [hoff]
  have hf : w.frozen? ⟨b, off, none⟩ = false := frozen_of_row w b off c T hb
  have hs := k _ (H'.setCell off v)
  have h1v := h1v.one
  have hst : (storeVar ty ⟨b, off, none⟩ v).run P w = .ok () (w.setCell ⟨b, off, none⟩ v) := by
    cases v <;> simp_all [storeVar, Value.cells, Value.oneCell', storeCells, store, Sem.run, Sem.run_bind, h1.size, Addr.add]
  unfold Oper.wp execOp
  simp only [hop, hx, hy, Instr.storeAt, Instr.sureAddr, Sem.run_bind, Sem.run_pure, Result.andThen_ok, hst]
  exact hs

/-- Cells put into a row, from a place on. -/
def putAll (c : Array Value) : Nat → List Value → Array Value
  | _, [] => c
  | off, v :: vs => putAll (c.setIfInBounds off v) (off + 1) vs

theorem run_storeCells (b : Nat) (T : TypeId) (r : List HP) : ∀ (vs : List Value) (off i : Nat) (c : Array Value) (w : World), Sat w0 w (.pt b (.cells c T (0, 0)) :: r) → off + i + vs.length ≤ c.size →
    (∀ u ∈ vs, u.oneCell' = true) → ∃ w', (storeCells ⟨b, off, none⟩ vs i).run P w = .ok () w' ∧ Sat w0 w' (.pt b (.cells (putAll c (off + i) vs) T (0, 0)) :: r) := by
  intro vs
  induction vs with
  | nil => intro off i c w H _ _; exact ⟨w, rfl, H⟩
  | cons v vs ih =>
    intro off i c w H hl h1
    simp only [List.length_cons] at hl
    have hc : w.cell? ⟨b, off + i, none⟩ = some (c[off + i]'(by omega)) := by rw [cell_of_heap H.pt]; simp
    have hf : w.frozen? ⟨b, off + i, none⟩ = false := frozen_of_row w b (off + i) c T H.pt
    have hv := h1 v (.head _)
    obtain ⟨w', h2, h3⟩ := ih off (i + 1) (c.setIfInBounds (off + i) v) _ (H.setCell (off + i) v) (by simp; omega) (fun u hu => h1 u (.tail _ hu))
    refine ⟨w', ?_, h3⟩
    simp only [storeCells, Sem.run_bind]
    have : (store ((⟨b, off, none⟩ : Addr).add i) v).run P w = .ok () (w.setCell ⟨b, off + i, none⟩ v) := by
      rw [Addr.add_lit]
      cases v <;> simp_all [store, Sem.run, Value.oneCell']
    rw [this]
    exact h2

/-- A store of several cells. -/
theorem wl_store_agg {x y : Operand} {n : Nat} (H : Sat w0 w As) (hop : o.op = .store ty x y) (hgd : Region.wanted o (yielded ops a.tmps) = true)
    (hx : a.eval x = .pointer (some ⟨b, off, none⟩)) (h1 : AggOf P ty n) (hr : HasPt b As (.cells c T (0, 0)) r)
    {v : Value} (hy : a.eval y = v) {us : List Value} (hv : v.cells.toList = us) (hn : us.length = n) (hoff : off + n ≤ c.size) (h1v : Ones us)
    (k : ∀ w', Sat w0 w' (.pt b (.cells (putAll c off us) T (0, 0)) :: r) → wpList P ops Q rest (a.put o.dst undef) w') : wpList P ops Q (o :: rest) a w := by
  refine wl_of_wp hgd ?_
  obtain ⟨w', h2, h3⟩ := run_storeCells (P := P) b T r us off 0 c w (H.perm hr.perm) (by omega) h1v.all
  have hs := k _ h3
  subst hv
  have hst : (storeVar ty ⟨b, off, none⟩ v).run P w = .ok () w' := by
    simp only [storeVar, Sem.run_bind, h1.size, Result.andThen_ok]
    rw [if_neg (by rw [← hn]; simp)]
    simpa using h2
  unfold Oper.wp execOp
  simp only [hop, hx, hy, Instr.storeAt, Instr.sureAddr, Sem.run_bind, Sem.run_pure, Result.andThen_ok, hst]
  exact hs

/-- A new variable with a value. -/
theorem wl_box {x : Operand} (H : Sat w0 w As) (hop : o.op = .box ty x) (hgd : Region.wanted o (yielded ops a.tmps) = true) {v : Value} (hx : a.eval x = v) {cs : Array Value} (hcs : v.cells = cs)
    (k : ∀ b w', Sat w0 w' (.pt b (.cells cs ty (0, 0)) :: As) → wpList P ops Q rest (a.put o.dst (.pointer (some ⟨b, 0, none⟩))) w') : wpList P ops Q (o :: rest) a w := by
  refine wl_of_wp hgd ?_
  have hs := k _ _ (H.alloc (.cells cs ty (0, 0)))
  unfold Oper.wp execOp
  simp only [hop, hx, Instr.box, newVar, newRow, newObj, Sem.run_bind, Sem.run_pure, Result.andThen_ok, hcs]
  exact hs

/-- A new variable. -/
theorem wl_alloc {z : Value} (H : Sat w0 w As) (hop : o.op = .alloc ty) (hgd : Region.wanted o (yielded ops a.tmps) = true) (hz : ZeroOf P ty z) {cs : Array Value} (hcs : z.cells = cs)
    (k : ∀ b w', Sat w0 w' (.pt b (.cells cs ty (0, 0)) :: As) → wpList P ops Q rest (a.put o.dst (.pointer (some ⟨b, 0, none⟩))) w') : wpList P ops Q (o :: rest) a w := by
  refine wl_of_wp hgd ?_
  have hs := k _ _ (H.alloc (.cells cs ty (0, 0)))
  unfold Oper.wp execOp
  simp only [hop, Instr.alloc, newVar, newRow, newObj, Sem.run_bind, Sem.run_pure, Result.andThen_ok, hcs, hz.run]
  exact hs

end
/-! The goal's next operation, looked at. -/
theorem is_load {P : Program} {ops : Array Oper} {Q : Exit → Act → World → Prop} {a : Act} {w : World} {rest : List Oper} {d : Option Tmp} {t : TypeId} {p : String} {af : Array Edge} {g : Option (Nat × Bool)} {ty : TypeId} {x : Operand} (hh : wpList P ops Q (⟨d, .load ty x, t, p, af, g⟩ :: rest) a w) : wpList P ops Q (⟨d, .load ty x, t, p, af, g⟩ :: rest) a w := hh
theorem is_store {P : Program} {ops : Array Oper} {Q : Exit → Act → World → Prop} {a : Act} {w : World} {rest : List Oper} {d : Option Tmp} {t : TypeId} {p : String} {af : Array Edge} {g : Option (Nat × Bool)} {ty : TypeId} {x y : Operand} (hh : wpList P ops Q (⟨d, .store ty x y, t, p, af, g⟩ :: rest) a w) : wpList P ops Q (⟨d, .store ty x y, t, p, af, g⟩ :: rest) a w := hh
theorem is_box {P : Program} {ops : Array Oper} {Q : Exit → Act → World → Prop} {a : Act} {w : World} {rest : List Oper} {d : Option Tmp} {t : TypeId} {p : String} {af : Array Edge} {g : Option (Nat × Bool)} {ty : TypeId} {x : Operand} (hh : wpList P ops Q (⟨d, .box ty x, t, p, af, g⟩ :: rest) a w) : wpList P ops Q (⟨d, .box ty x, t, p, af, g⟩ :: rest) a w := hh
theorem is_alloc {P : Program} {ops : Array Oper} {Q : Exit → Act → World → Prop} {a : Act} {w : World} {rest : List Oper} {d : Option Tmp} {t : TypeId} {p : String} {af : Array Edge} {g : Option (Nat × Bool)} {ty : TypeId} (hh : wpList P ops Q (⟨d, .alloc ty, t, p, af, g⟩ :: rest) a w) : wpList P ops Q (⟨d, .alloc ty, t, p, af, g⟩ :: rest) a w := hh
theorem is_buildSlice {P : Program} {ops : Array Oper} {Q : Exit → Act → World → Prop} {a : Act} {w : World} {rest : List Oper} {d : Option Tmp} {t : TypeId} {p : String} {af : Array Edge} {g : Option (Nat × Bool)} {ty : TypeId} {n : Nat} {ps : Array (Nat × Operand)} (hh : wpList P ops Q (⟨d, .buildSlice ty n ps, t, p, af, g⟩ :: rest) a w) : wpList P ops Q (⟨d, .buildSlice ty n ps, t, p, af, g⟩ :: rest) a w := hh
theorem is_indexAddr {P : Program} {ops : Array Oper} {Q : Exit → Act → World → Prop} {a : Act} {w : World} {rest : List Oper} {d : Option Tmp} {t : TypeId} {p : String} {af : Array Edge} {g : Option (Nat × Bool)} {ty : TypeId} {x y : Operand} (hh : wpList P ops Q (⟨d, .indexAddr ty x y, t, p, af, g⟩ :: rest) a w) : wpList P ops Q (⟨d, .indexAddr ty x y, t, p, af, g⟩ :: rest) a w := hh
theorem is_append {P : Program} {ops : Array Oper} {Q : Exit → Act → World → Prop} {a : Act} {w : World} {rest : List Oper} {d : Option Tmp} {t : TypeId} {p : String} {af : Array Edge} {g : Option (Nat × Bool)} {xs : Array Operand} {ts : Array TypeId} (hh : wpList P ops Q (⟨d, .call { callee := .builtin .append, args := xs, argTypes := ts }, t, p, af, g⟩ :: rest) a w) : wpList P ops Q (⟨d, .call { callee := .builtin .append, args := xs, argTypes := ts }, t, p, af, g⟩ :: rest) a w := hh
theorem is_len {P : Program} {ops : Array Oper} {Q : Exit → Act → World → Prop} {a : Act} {w : World} {rest : List Oper} {d : Option Tmp} {t : TypeId} {p : String} {af : Array Edge} {g : Option (Nat × Bool)} {xs : Array Operand} {ts : Array TypeId} (hh : wpList P ops Q (⟨d, .call { callee := .builtin .len, args := xs, argTypes := ts }, t, p, af, g⟩ :: rest) a w) : wpList P ops Q (⟨d, .call { callee := .builtin .len, args := xs, argTypes := ts }, t, p, af, g⟩ :: rest) a w := hh
theorem is_copy {P : Program} {ops : Array Oper} {Q : Exit → Act → World → Prop} {a : Act} {w : World} {rest : List Oper} {d : Option Tmp} {t : TypeId} {p : String} {af : Array Edge} {g : Option (Nat × Bool)} {xs : Array Operand} {ts : Array TypeId} (hh : wpList P ops Q (⟨d, .call { callee := .builtin .copy, args := xs, argTypes := ts }, t, p, af, g⟩ :: rest) a w) : wpList P ops Q (⟨d, .call { callee := .builtin .copy, args := xs, argTypes := ts }, t, p, af, g⟩ :: rest) a w := hh
theorem is_clear {P : Program} {ops : Array Oper} {Q : Exit → Act → World → Prop} {a : Act} {w : World} {rest : List Oper} {d : Option Tmp} {t : TypeId} {p : String} {af : Array Edge} {g : Option (Nat × Bool)} {xs : Array Operand} {ts : Array TypeId} (hh : wpList P ops Q (⟨d, .call { callee := .builtin .clear, args := xs, argTypes := ts }, t, p, af, g⟩ :: rest) a w) : wpList P ops Q (⟨d, .call { callee := .builtin .clear, args := xs, argTypes := ts }, t, p, af, g⟩ :: rest) a w := hh
theorem is_delete {P : Program} {ops : Array Oper} {Q : Exit → Act → World → Prop} {a : Act} {w : World} {rest : List Oper} {d : Option Tmp} {t : TypeId} {p : String} {af : Array Edge} {g : Option (Nat × Bool)} {xs : Array Operand} {ts : Array TypeId} (hh : wpList P ops Q (⟨d, .call { callee := .builtin .delete, args := xs, argTypes := ts }, t, p, af, g⟩ :: rest) a w) : wpList P ops Q (⟨d, .call { callee := .builtin .delete, args := xs, argTypes := ts }, t, p, af, g⟩ :: rest) a w := hh
theorem is_cap {P : Program} {ops : Array Oper} {Q : Exit → Act → World → Prop} {a : Act} {w : World} {rest : List Oper} {d : Option Tmp} {t : TypeId} {p : String} {af : Array Edge} {g : Option (Nat × Bool)} {xs : Array Operand} {ts : Array TypeId} (hh : wpList P ops Q (⟨d, .call { callee := .builtin .cap, args := xs, argTypes := ts }, t, p, af, g⟩ :: rest) a w) : wpList P ops Q (⟨d, .call { callee := .builtin .cap, args := xs, argTypes := ts }, t, p, af, g⟩ :: rest) a w := hh
theorem is_slice {P : Program} {ops : Array Oper} {Q : Exit → Act → World → Prop} {a : Act} {w : World} {rest : List Oper} {d : Option Tmp} {t : TypeId} {p : String} {af : Array Edge} {g : Option (Nat × Bool)} {ty : TypeId} {x : Operand} {l h m : Option Operand} (hh : wpList P ops Q (⟨d, .slice ty x l h m, t, p, af, g⟩ :: rest) a w) : wpList P ops Q (⟨d, .slice ty x l h m, t, p, af, g⟩ :: rest) a w := hh
theorem is_makeSlice {P : Program} {ops : Array Oper} {Q : Exit → Act → World → Prop} {a : Act} {w : World} {rest : List Oper} {d : Option Tmp} {t : TypeId} {p : String} {af : Array Edge} {g : Option (Nat × Bool)} {ty : TypeId} {x y : Operand} (hh : wpList P ops Q (⟨d, .makeSlice ty x y, t, p, af, g⟩ :: rest) a w) : wpList P ops Q (⟨d, .makeSlice ty x y, t, p, af, g⟩ :: rest) a w := hh
theorem is_makeMap {P : Program} {ops : Array Oper} {Q : Exit → Act → World → Prop} {a : Act} {w : World} {rest : List Oper} {d : Option Tmp} {t : TypeId} {p : String} {af : Array Edge} {g : Option (Nat × Bool)} {ty : TypeId} {r : Option Operand} (hh : wpList P ops Q (⟨d, .makeMap ty r, t, p, af, g⟩ :: rest) a w) : wpList P ops Q (⟨d, .makeMap ty r, t, p, af, g⟩ :: rest) a w := hh
theorem is_lookup {P : Program} {ops : Array Oper} {Q : Exit → Act → World → Prop} {a : Act} {w : World} {rest : List Oper} {d : Option Tmp} {t : TypeId} {p : String} {af : Array Edge} {g : Option (Nat × Bool)} {ty : TypeId} {x y : Operand} {ok : Bool} (hh : wpList P ops Q (⟨d, .lookup ty x y ok, t, p, af, g⟩ :: rest) a w) : wpList P ops Q (⟨d, .lookup ty x y ok, t, p, af, g⟩ :: rest) a w := hh
theorem is_mapUpdate {P : Program} {ops : Array Oper} {Q : Exit → Act → World → Prop} {a : Act} {w : World} {rest : List Oper} {d : Option Tmp} {t : TypeId} {p : String} {af : Array Edge} {g : Option (Nat × Bool)} {ty : TypeId} {x y z : Operand} (hh : wpList P ops Q (⟨d, .mapUpdate ty x y z, t, p, af, g⟩ :: rest) a w) : wpList P ops Q (⟨d, .mapUpdate ty x y z, t, p, af, g⟩ :: rest) a w := hh
theorem is_mapEntry {P : Program} {ops : Array Oper} {Q : Exit → Act → World → Prop} {a : Act} {w : World} {rest : List Oper} {d : Option Tmp} {t : TypeId} {p : String} {af : Array Edge} {g : Option (Nat × Bool)} {ty : TypeId} {x y : Operand} (hh : wpList P ops Q (⟨d, .mapEntry ty x y, t, p, af, g⟩ :: rest) a w) : wpList P ops Q (⟨d, .mapEntry ty x y, t, p, af, g⟩ :: rest) a w := hh
theorem is_entryStore {P : Program} {ops : Array Oper} {Q : Exit → Act → World → Prop} {a : Act} {w : World} {rest : List Oper} {d : Option Tmp} {t : TypeId} {p : String} {af : Array Edge} {g : Option (Nat × Bool)} {ty : TypeId} {x y z : Operand} (hh : wpList P ops Q (⟨d, .entryStore ty x y z, t, p, af, g⟩ :: rest) a w) : wpList P ops Q (⟨d, .entryStore ty x y z, t, p, af, g⟩ :: rest) a w := hh
theorem is_convert {P : Program} {ops : Array Oper} {Q : Exit → Act → World → Prop} {a : Act} {w : World} {rest : List Oper} {d : Option Tmp} {t : TypeId} {p : String} {af : Array Edge} {g : Option (Nat × Bool)} {s u : TypeId} {x : Operand} (hh : wpList P ops Q (⟨d, .convert s u x, t, p, af, g⟩ :: rest) a w) : wpList P ops Q (⟨d, .convert s u x, t, p, af, g⟩ :: rest) a w := hh
theorem is_range {P : Program} {ops : Array Oper} {Q : Exit → Act → World → Prop} {a : Act} {w : World} {rest : List Oper} {d : Option Tmp} {t : TypeId} {p : String} {af : Array Edge} {g : Option (Nat × Bool)} {ty : TypeId} {x : Operand} (hh : wpList P ops Q (⟨d, .range ty x, t, p, af, g⟩ :: rest) a w) : wpList P ops Q (⟨d, .range ty x, t, p, af, g⟩ :: rest) a w := hh
theorem is_next {P : Program} {ops : Array Oper} {Q : Exit → Act → World → Prop} {a : Act} {w : World} {rest : List Oper} {d : Option Tmp} {t : TypeId} {p : String} {af : Array Edge} {g : Option (Nat × Bool)} {x : Operand} {b : Bool} (hh : wpList P ops Q (⟨d, .next x b, t, p, af, g⟩ :: rest) a w) : wpList P ops Q (⟨d, .next x b, t, p, af, g⟩ :: rest) a w := hh
theorem is_binOp {P : Program} {ops : Array Oper} {Q : Exit → Act → World → Prop} {a : Act} {w : World} {rest : List Oper} {d : Option Tmp} {t : TypeId} {p : String} {af : Array Edge} {g : Option (Nat × Bool)} {op : BinOp} {ty2 : TypeId} {x y : Operand} {u : TypeId} (hh : wpList P ops Q (⟨d, .binOp op ty2 x y u, t, p, af, g⟩ :: rest) a w) : wpList P ops Q (⟨d, .binOp op ty2 x y u, t, p, af, g⟩ :: rest) a w := hh
theorem is_index {P : Program} {ops : Array Oper} {Q : Exit → Act → World → Prop} {a : Act} {w : World} {rest : List Oper} {d : Option Tmp} {t : TypeId} {p : String} {af : Array Edge} {g : Option (Nat × Bool)} {ty : TypeId} {x y : Operand} (hh : wpList P ops Q (⟨d, .index ty x y, t, p, af, g⟩ :: rest) a w) : wpList P ops Q (⟨d, .index ty x y, t, p, af, g⟩ :: rest) a w := hh
theorem is_fieldAddr {P : Program} {ops : Array Oper} {Q : Exit → Act → World → Prop} {a : Act} {w : World} {rest : List Oper} {d : Option Tmp} {t : TypeId} {p : String} {af : Array Edge} {g : Option (Nat × Bool)} {ty : TypeId} {x : Operand} {f : Nat} (hh : wpList P ops Q (⟨d, .fieldAddr ty x f, t, p, af, g⟩ :: rest) a w) : wpList P ops Q (⟨d, .fieldAddr ty x f, t, p, af, g⟩ :: rest) a w := hh
theorem is_field {P : Program} {ops : Array Oper} {Q : Exit → Act → World → Prop} {a : Act} {w : World} {rest : List Oper} {d : Option Tmp} {t : TypeId} {p : String} {af : Array Edge} {g : Option (Nat × Bool)} {ty : TypeId} {x : Operand} {f : Nat} (hh : wpList P ops Q (⟨d, .field ty x f, t, p, af, g⟩ :: rest) a w) : wpList P ops Q (⟨d, .field ty x f, t, p, af, g⟩ :: rest) a w := hh
theorem is_makeInterface {P : Program} {ops : Array Oper} {Q : Exit → Act → World → Prop} {a : Act} {w : World} {rest : List Oper} {d : Option Tmp} {t : TypeId} {p : String} {af : Array Edge} {g : Option (Nat × Bool)} {ty : TypeId} {x : Operand} (hh : wpList P ops Q (⟨d, .makeInterface ty x, t, p, af, g⟩ :: rest) a w) : wpList P ops Q (⟨d, .makeInterface ty x, t, p, af, g⟩ :: rest) a w := hh

end Go.SL

namespace Go.SL
open Go Go.RowKit
section
variable {P : Program} {fn : Func} {R : Ending → World → Prop} {a : Act} {w w0 : World} {As : List HP} {p : Tmp} {ty T : TypeId} {b n : Nat} {c : Array Value} {fr : Nat × Nat}

theorem run_cell (H : Sat w0 w As) (hp : a.tmps.getD p undef = .pointer (some ⟨b, 0, none⟩)) (hr : Rd b As (.cells c T fr)) (ha : AggOf P ty n) (hn : c.size = n) :
    Sem.run P (asAddr (a.tmps[p]?.getD undef)) w = .ok ⟨b, 0, none⟩ w ∧ (loadVar ty ⟨b, 0, none⟩).run P w = .ok (.agg c) w := by
  have hrun : (loadCells ⟨b, 0, none⟩ c.toList.length).run P w = .ok c.toList.toArray w :=
    run_loadCells_list (P := P) w ⟨b, 0, none⟩ c.toList (fun j u hj => by
      rw [Addr.add_lit, Nat.zero_add, cell_of_heap (hr.get H), ← Array.getElem?_toList]; exact hj)
  rw [Array.length_toList, hn] at hrun
  refine ⟨by rw [← Array.getD_eq_getD_getElem?, hp]; simp [asAddr], ?_⟩
  simp only [loadVar, Sem.run_bind, Result.andThen_ok, ha.agg, if_true, ha.size, hrun, Sem.run_pure, Array.toArray_toList]

theorem ret_cell (H : Sat w0 w As) (hres : fn.results = #[.cell p ty]) (hd : a.defers = []) (hp : a.tmps.getD p undef = .pointer (some ⟨b, 0, none⟩)) (hr : Rd b As (.cells c T fr)) (ha : AggOf P ty n) (hn : c.size = n)
    (hR : R (.returned (.agg c)) w) : bodyPost P fn R .ret a w := by
  obtain ⟨h1, h2⟩ := run_cell H hp hr ha hn
  refine ⟨hd, _, ?_, hR⟩
  simp [results, hres, Sem.run_bind, h1, h2, Result.andThen]

theorem ret_cell1 {t1 : Tmp} (H : Sat w0 w As) (hres : fn.results = #[.cell p ty, .tmp t1]) (hd : a.defers = []) (hp : a.tmps.getD p undef = .pointer (some ⟨b, 0, none⟩)) (hr : Rd b As (.cells c T fr)) (ha : AggOf P ty n) (hn : c.size = n)
    {v1 : Value} (h1 : a.tmps.getD t1 undef = v1) (hR : R (.returned (.tuple #[.agg c, v1])) w) : bodyPost P fn R .ret a w := by
  obtain ⟨g1, g2⟩ := run_cell H hp hr ha hn
  subst h1
  refine ⟨hd, _, ?_, hR⟩
  simp [results, hres, Sem.run_bind, g1, g2, Result.andThen]

theorem ret_cell2 {t1 t2 : Tmp} (H : Sat w0 w As) (hres : fn.results = #[.cell p ty, .tmp t1, .tmp t2]) (hd : a.defers = []) (hp : a.tmps.getD p undef = .pointer (some ⟨b, 0, none⟩)) (hr : Rd b As (.cells c T fr)) (ha : AggOf P ty n) (hn : c.size = n)
    {v1 v2 : Value} (h1 : a.tmps.getD t1 undef = v1) (h2 : a.tmps.getD t2 undef = v2) (hR : R (.returned (.tuple #[.agg c, v1, v2])) w) : bodyPost P fn R .ret a w := by
  obtain ⟨g1, g2⟩ := run_cell H hp hr ha hn
  subst h1 h2
  refine ⟨hd, _, ?_, hR⟩
  simp [results, hres, Sem.run_bind, g1, g2, Result.andThen]

theorem ret_cell3 {t1 t2 t3 : Tmp} (H : Sat w0 w As) (hres : fn.results = #[.cell p ty, .tmp t1, .tmp t2, .tmp t3]) (hd : a.defers = []) (hp : a.tmps.getD p undef = .pointer (some ⟨b, 0, none⟩)) (hr : Rd b As (.cells c T fr)) (ha : AggOf P ty n) (hn : c.size = n)
    {v1 v2 v3 : Value} (h1 : a.tmps.getD t1 undef = v1) (h2 : a.tmps.getD t2 undef = v2) (h3 : a.tmps.getD t3 undef = v3) (hR : R (.returned (.tuple #[.agg c, v1, v2, v3])) w) : bodyPost P fn R .ret a w := by
  obtain ⟨g1, g2⟩ := run_cell H hp hr ha hn
  subst h1 h2 h3
  refine ⟨hd, _, ?_, hR⟩
  simp [results, hres, Sem.run_bind, g1, g2, Result.andThen]
end
theorem is_ret {P : Program} {fn : Func} {R : Ending → World → Prop} {a : Act} {w : World} (h : bodyPost P fn R .ret a w) : bodyPost P fn R .ret a w := h
end Go.SL

namespace Go.SL
open Go Go.RowKit
theorem is_end {P : Program} {fn : Func} {R : Ending → World → Prop} {a : Act} {w : World} (h : bodyPost P fn R .normal a w) : bodyPost P fn R .normal a w := h
end Go.SL

namespace Go.SL
open Go Go.RowKit
theorem results_tmp3 {fn : Func} {t u v : Tmp} (h : fn.results = #[.tmp t, .tmp u, .tmp v]) (tmps : Array Value) (P : Program) (w : World) :
    (results fn tmps).run P w = .ok (.tuple #[tmps.getD t undef, tmps.getD u undef, tmps.getD v undef]) w := by simp [results, h]
theorem results_tmp4 {fn : Func} {t u v x : Tmp} (h : fn.results = #[.tmp t, .tmp u, .tmp v, .tmp x]) (tmps : Array Value) (P : Program) (w : World) :
    (results fn tmps).run P w = .ok (.tuple #[tmps.getD t undef, tmps.getD u undef, tmps.getD v undef, tmps.getD x undef]) w := by simp [results, h]
theorem ret_tmp1 {P : Program} {fn : Func} {R : Ending → World → Prop} {a : Act} {w : World} {t : Tmp} {v : Value} (hres : fn.results = #[.tmp t]) (hd : a.defers = []) (hv : a.tmps.getD t undef = v) (hR : R (.returned v) w) : bodyPost P fn R .ret a w := by
  subst hv
  exact bodyPost_ret (by simp [results, hres]) hd hR
end Go.SL
