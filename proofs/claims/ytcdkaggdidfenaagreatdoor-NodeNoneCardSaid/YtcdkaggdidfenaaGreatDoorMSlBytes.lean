/- A part of the proof: contracts of functions of the given program, and the laws on memory that they lean on. -/
import Derived.Test.YtcdkaggdidfenaaGreatDoorMSlSlice
import Derived.Laws.MakeOwn
import Derived.Laws.CopyRow
import Derived.Lib.AppendStr
import Derived.Lib.ConvBytes
import Derived.Laws.IdiomStrings
set_option linter.all false
namespace Go.SL
open Go Go.RowKit

/-- A type's zero, as an element. -/
class ZeroElem {α : Type} (P : Program) (e : TypeId) (E : Enc α) (z0 : outParam α) : Prop where
  info : ∃ i z, P.info? e = some i ∧ i.zero = some z ∧ i.size = 1 ∧ i.bytes ≤ 128 ∧ z.cells = #[z] ∧ E.enc z0 = [z]

class StrTy (P : Program) (t : TypeId) : Prop where u : P.underlying t = some .string
class U8Ty (P : Program) (t : TypeId) : Prop where u : P.underlying t = some (.int .u8)

section
variable {P : Program} {ops : Array Oper} {Q : Exit → Act → World → Prop} {a : Act} {w w0 : World} {rest : List Oper} {o : Oper} {As r : List HP}
variable {α : Type} {E : Enc α} {e : TypeId} {v : Value} {l : List α}

theorem Enc.all_replicate {α : Type} (E : Enc α) {z0 : α} {z : Value} (h : E.enc z0 = [z]) (n : Nat) : E.all (List.replicate n z0) = List.replicate n z := by
  induction n with
  | zero => rfl
  | succ n ih => rw [List.replicate_succ, List.replicate_succ, ← ih]; simp [Enc.all, h]

theorem wl_make {t : TypeId} {x y : Operand} {kx ky : IntKind} {n c : Int} {z0 : α} (E : Enc α) (H : Sat w0 w As) (hop : o.op = .makeSlice t x y) (hgd : Region.wanted o (yielded ops a.tmps) = true)
    (hx : a.eval x = .int kx n) (hy : a.eval y = .int ky c) (ht : SliceTy P t e) (he : ZeroElem P e E z0) (h0 : 0 ≤ n) (h1 : n ≤ c) (h2 : c ≤ 4294967296)
    (k : ∀ v' w', Sat w0 w' (ownL E e v' (List.replicate n.toNat z0) :: As) → wpList P ops Q rest (a.put o.dst v') w') : wpList P ops Q (o :: rest) a w := by
  refine wl_of_wp hgd ?_
  obtain ⟨i, z, hi, hz, hk, hby, hzc, hen⟩ := he.info
  have hb : (i.bytes : Int) * c ≤ 281474976710656 := by
    have h3 : (i.bytes : Int) * c ≤ 128 * 4294967296 := Int.mul_le_mul (by omega) h2 (by omega) (by omega)
    omega
  have hrun := run_make (P := P) w t e i z ht.u hi hz kx ky n c h0 h1 hb (by omega)
  have hEk : E.k = 1 := by rw [← E.len z0, hen]; rfl
  have hs := k (.slice (some ⟨w.heap.size, 0, none⟩) n.toNat c.toNat) _ (ownL_mk (l := List.replicate n.toNat z0) (cap := c.toNat) (E := E) (v := .slice (some ⟨w.heap.size, 0, none⟩) n.toNat c.toNat)
    ⟨by simp, rfl, by simp; omega, by unfold maxLen; omega, by rw [size_madeCells, hk, hEk], by
      rw [hzc, hk, toList_madeCells_one, List.take_replicate, E.all_replicate hen, hEk, List.length_replicate]
      congr 1; omega⟩ (H.alloc (.cells (madeCells z.cells (c.toNat * i.size)) e (0, 0))))
  unfold Oper.wp execOp
  simp only [hop, hx, hy, hrun, Sem.run_bind, Result.andThen_ok, Sem.run_pure]
  exact hs

/-- copy(d, s) of two slices of elements of one cell. -/
theorem wl_copy {t : TypeId} {x y : Operand} {vx : Value} {m : List α} (E : Enc α) (H : Sat w0 w As) (hop : o.op = .call { callee := .builtin .copy, args := #[x, y], argTypes := #[t, t] })
    (hgd : Region.wanted o (yielded ops a.tmps) = true) (hx : a.eval x = v) (hy : a.eval y = vx) (ht : SliceTy P t e) (he : ElemTy P e E.k) (hk : E.k = 1) (hv : HasL E e v As l r) (hr : RdV E As vx m) (hml : m.length ≤ l.length)
    (k : ∀ w', Sat w0 w' (ownL E e v (m ++ l.drop m.length) :: r) → wpList P ops Q rest (a.put o.dst (.int .i64 m.length)) w') : wpList P ops Q (o :: rest) a w := by
  refine wl_of_wp hgd ?_
  obtain ⟨i, z, hi, hz, hik, hby, hzc⟩ := he.info
  have H1 := hv.get H
  have done : ∀ w', (Builtin.copy_ #[t, t] o.type #[v, vx]).run P w = .ok (.int .i64 m.length) w' → Sat w0 w' (ownL E e v (m ++ l.drop m.length) :: r) → o.wp P a w (wpList P ops Q rest) Q := by
    intro w' hrun hs
    have := k w' hs
    unfold Oper.wp
    simp [execOp, hop, resolve, invoke, builtin, hx, hy, hrun, Result.andThen]
    exact this
  rcases ownL_cases H1 with ⟨rfl, rfl, H2⟩ | ⟨g, cap, cur, h, H2⟩
  · obtain rfl : m = [] := List.eq_nil_of_length_eq_zero (by simpa using hml)
    refine done w ?_ (by simpa using H1)
    rcases (hr.get H).len with ⟨ad, c, rfl⟩
    cases ad <;> simp [Builtin.copy_, run_underlying ht.u, sizeOf, typeInfo, hi, Builtin.lenOf, Builtin.firstCells, goInt, loadCells, loadCellsFrom]
  · rcases hr.get H with ⟨rfl, rfl⟩ | ⟨gx, ox, cx, rfl, hxc, hxm, hxr⟩
    · refine done w ?_ (by simpa using H1)
      rw [h.hv]
      simp [Builtin.copy_, run_underlying ht.u, sizeOf, typeInfo, hi, Builtin.lenOf, Builtin.firstCells, goInt, storeCells]
    · have hlen : (E.all m).length = m.length := by rw [E.length_all, hk, Nat.mul_one]
      have hsz := h.hsize
      have hc := h.hcap
      have htk := h.htake
      rw [hk, Nat.mul_one] at hsz htk
      have hrun := run_copy_row (P := P) w t t o.type e g 0 l.length cap ⟨gx, ox, none⟩ m.length cx cur e (E.all m) ht.u (by rw [hi]; simp [hik, hk]) H2.pt (by rw [hlen]; exact (Nat.min_eq_left hml).symm)
        (fun j u hj => by rw [Addr.add_lit]; exact hxr j u hj) (by rw [hlen, hsz]; omega) (E.all_one m)
      rw [hlen] at hrun
      have hset : Sat w0 (w.setRow g (cur.toList.take 0 ++ E.all m ++ cur.toList.drop (0 + m.length)).toArray)
          (.pt g (.cells (cur.toList.take 0 ++ E.all m ++ cur.toList.drop (0 + m.length)).toArray e (0, 0)) :: r) :=
        H2.turn rfl rfl rfl (by simp [World.setRow]) (setRow_heap w g cur _ e _ H2.pt) (fun k _ hne => setRow_other w g k _ hne)
      have hll : (m ++ l.drop m.length).length = l.length := by simp; omega
      refine done _ (by rw [h.hv]; simpa [goInt] using hrun) (ownL_mk (l := m ++ l.drop m.length) (cap := cap) ?_ hset)
      refine ⟨by rw [hll]; exact h.hv, rfl, by rw [hll]; exact hc, h.hmax, ?_, ?_⟩
      · simp [hlen, hsz, hk]; omega
      · rw [hll, hk, Nat.mul_one, List.take_zero, List.nil_append, Nat.zero_add, E.all_append]
        show List.take _ (E.all m ++ cur.toList.drop m.length) = _
        rw [List.take_append, hlen, List.take_of_length_le (by rw [hlen]; exact hml)]
        congr 1
        have e2 : E.all l = E.all (l.take m.length) ++ E.all (l.drop m.length) := by rw [← E.all_append, List.take_append_drop]
        have e3 : (E.all (l.take m.length)).length = m.length := by rw [E.length_all, hk]; simp; omega
        rw [← htk] at e2
        have e4 := congrArg (List.drop m.length) e2
        rw [List.drop_left' e3] at e4
        rw [← e4, List.drop_take]

theorem all_bytes (l : List UInt8) : byteE.all l = l.map fun b => Value.int .u8 b.toNat := by
  induction l with
  | nil => rfl
  | cons x l ih => simp only [List.map_cons, ← ih]; rfl

theorem strCells_eq (s : ByteArray) : Lib.strCells s = byteE.all s.data.toList := by rw [all_bytes]; rfl

/-- append(b, s...) of bytes and a string. -/
theorem wl_append_str {t u : TypeId} {x y : Operand} {l : List UInt8} {s : ByteArray} (H : Sat w0 w As) (hop : o.op = .call { callee := .builtin .append, args := #[x, y], argTypes := #[t, u] })
    (hgd : Region.wanted o (yielded ops a.tmps) = true) (hx : a.eval x = v) (hy : a.eval y = .string s) (ht : SliceTy P t e) (hu : StrTy P u) (he : ElemTy P e 1) (hv : HasL byteE e v As l r) (hb : l.length + s.size ≤ 4294967296)
    (k : ∀ v' w', Sat w0 w' (ownL byteE e v' (l ++ s.data.toList) :: r) → wpList P ops Q rest (a.put o.dst v') w') : wpList P ops Q (o :: rest) a w := by
  refine wl_of_wp hgd ?_
  obtain ⟨i, z, hi, hz, hik, hby, hzc⟩ := he.info
  have H1 := hv.get H
  have hsl : s.data.toList.length = s.size := by cases s; rfl
  have done : ∀ v' w', (Builtin.append_ #[t, u] o.type #[v, .string s]).run P w = .ok v' w' → Sat w0 w' (ownL byteE e v' (l ++ s.data.toList) :: r) → o.wp P a w (wpList P ops Q rest) Q := by
    intro v' w' hrun hs
    have := k v' w' hs
    unfold Oper.wp
    simp [execOp, hop, resolve, invoke, builtin, hx, hy, hrun, Result.andThen]
    exact this
  have hb1 : ∀ n, n ≤ 4294967296 → n * i.bytes ≤ 140737488355328 * 2 * 2 := fun n hn => by
    have := Nat.mul_le_mul hn hby; omega
  rcases ownL_cases H1 with ⟨rfl, rfl, H2⟩ | ⟨g, cap, cur, h, H2⟩
  · by_cases h0 : s.size = 0
    · have hnil : s.data.toList = [] := List.eq_nil_of_length_eq_zero (by omega)
      refine done (.slice none 0 0) w ?_ (by rw [hnil]; simpa using H1)
      simp [Builtin.append_, run_underlying ht.u, run_underlying hu.u, sizeOf, typeInfo, hi, Builtin.lenOf, Builtin.firstCells, h0]
    · have hr := run_append_nil_string (P := P) w t u o.type e i z ht.u hu.u hi hz s (by omega) (by omega) (by have := Nat.mul_le_mul (show s.size ≤ 4294967296 by simp at hb; omega) hby; omega)
      refine done _ _ hr (ownL_mk (l := [] ++ s.data.toList) (cap := grownCap w s.size 0 e) ?_ (H2.drew.alloc _))
      have hg := grownCap_ge w s.size 0 e
      have hgm := grownCap_le_maxLen w s.size 0 e (by unfold maxLen; simp at hb; omega)
      refine ⟨by simp [hsl], rfl, by simpa [hsl] using hg, hgm, ?_, ?_⟩
      · simp only [Array.size_append, Array.size_map, size_zeroCells, hzc, Nat.mul_one]
        show s.size + _ = _
        omega
      · simp only [Array.toList_append, Array.toList_map, List.nil_append, hsl, Nat.mul_one, all_bytes]
        rw [← hsl, ← List.length_map (f := fun b : UInt8 => Value.int .u8 b.toNat), List.take_left]
  · obtain rfl := h.hv
    have hsz := h.hsize
    have hc := h.hcap
    have htk := h.htake
    simp only [Nat.mul_one] at hsz htk
    have hcl : (byteE.all s.data.toList).length = s.size := by rw [Enc.length_all, hsl, Nat.mul_one]
    by_cases hroom : l.length + s.size ≤ cap
    · have hr := Lib.run_append_room_string (P := P) w t u o.type e i ht.u hu.u hi hik g l.length cap cur H2.pt s hroom (by omega)
      refine done _ _ hr (ownL_mk (l := l ++ s.data.toList) (cap := cap) ?_ (H2.turn rfl rfl rfl (by simp [World.setRow]) (setRow_heap w g cur _ e _ H2.pt) (fun k _ hne => setRow_other w g k _ hne)))
      refine ⟨by simp [hsl], rfl, by simpa [hsl] using hroom, h.hmax, ?_, ?_⟩
      · simp [strCells_eq, hcl, hsz]; omega
      · simp only [Nat.mul_one, htk, byteE.all_append, strCells_eq, List.length_append, hsl]
        have e1 : l.length + s.size = (byteE.all l ++ byteE.all s.data.toList).length := by rw [List.length_append, hcl, Enc.length_all, Nat.mul_one]
        rw [e1, List.take_left]
    · have holds : ∀ j u, (byteE.all l)[j]? = some u → w.cell? ((⟨g, 0, none⟩ : Addr).add j) = some u := fun j u hj => by
        rw [Addr.add_lit, Nat.zero_add, cell_of_heap H2.pt, ← Array.getElem?_toList]
        rw [← htk, List.getElem?_take] at hj
        split at hj
        · exact hj
        · cases hj
      have hnx := nextcap_le (need := l.length + s.size) (old := cap) (by omega)
      have hr := Lib.run_append_grow_string (P := P) w t u o.type e i z ht.u hu.u hi hz ⟨g, 0, none⟩ l.length cap (byteE.all l) (by rw [hik]; exact byteE.length_all l) holds s (by omega) (by omega)
        (by
          refine Nat.le_trans (Nat.mul_le_mul hnx hby) ?_
          omega)
      refine done _ _ hr (ownL_mk (l := l ++ s.data.toList) (cap := grownCap w (l.length + s.size) cap e) ?_ (H2.drop.drew.alloc _))
      have hg := grownCap_ge w (l.length + s.size) cap e
      have hgm := grownCap_le_maxLen w (l.length + s.size) cap e (by unfold maxLen; omega)
      refine ⟨by simp [hsl], rfl, by simpa [hsl] using hg, hgm, ?_, ?_⟩
      · simp only [Array.size_append, List.size_toArray, Enc.length_all, strCells_eq, size_zeroCells, hzc, hsl, Nat.mul_one]
        omega
      · simp only [Array.toList_append, strCells_eq, Nat.mul_one, List.length_append, hsl, byteE.all_append]
        have e1 : l.length + s.size = (byteE.all l ++ byteE.all s.data.toList).length := by rw [List.length_append, hcl, Enc.length_all, Nat.mul_one]
        rw [e1, List.take_left]

/-- string(b). -/
theorem wl_bytes_str {t u : TypeId} {x : Operand} {l : List UInt8} (H : Sat w0 w As) (hop : o.op = .convert t u x) (hgd : Region.wanted o (yielded ops a.tmps) = true) (hx : a.eval x = v)
    (ht : SliceTy P t e) (hu : StrTy P u) (he : U8Ty P e) (hr : RdV byteE As v l)
    (k : wpList P ops Q rest (a.put o.dst (.string ⟨l.toArray⟩)) w) : wpList P ops Q (o :: rest) a w := by
  refine wl_of_wp hgd ?_
  have hrun : (convert t u v).run P w = .ok (.string ⟨l.toArray⟩) w := by
    rcases hr.get H with ⟨rfl, rfl⟩ | ⟨g, off, cap, rfl, hc, hm, hrd⟩
    · rw [run_convert_bytes_string (P := P) w t u e none 0 0 ht.u he.u hu.u]
      unfold Conv.bytesToString
      simp [Sem.run_pure]
      rfl
    · refine run_convert_bytes_back (P := P) w t u e ⟨g, off, none⟩ cap l ht.u he.u hu.u (fun j hj => ?_)
      rw [Addr.add_lit]
      refine hrd j _ ?_
      rw [all_bytes, List.getElem?_map, List.getElem?_eq_getElem hj]; rfl
  unfold Oper.wp execOp
  simp only [hop, hx, hrun, Sem.run_bind, Result.andThen_ok, Sem.run_pure]
  exact k
end

/-- Bytes that are read only. -/
def rdB (e : TypeId) (v : Value) (l : List UInt8) : HP := .ex fun p : Nat × Nat × Array Value × (Nat × Nat) =>
  .sep (.prop (v = .slice (some ⟨p.1, 0, none⟩) l.length p.2.1 ∧ l.length ≤ p.2.1 ∧ p.2.1 ≤ maxLen ∧ ∀ (j : Nat) (u : Value), (byteE.all l)[j]? = some u → (p.2.2.1 : Array Value)[j]? = some u)) (.pt p.1 (.cells p.2.2.1 e p.2.2.2))

instance (priority := 1500) RdV.rdB {e : TypeId} {v : Value} {l : List UInt8} {As : List HP} : RdV byteE (rdB e v l :: As) v l := ⟨fun H => by
  obtain ⟨⟨g, cap, cur, fr⟩, H⟩ := Sat.ex_iff.1 H
  obtain ⟨⟨h1, h2, h3, h4⟩, H⟩ := Sat.prop_iff.1 (Sat.sep_iff.1 H)
  refine .inr ⟨g, 0, cap, h1, h2, h3, fun j u hj => ?_⟩
  rw [Nat.zero_add, cell_of_heap H.pt]
  exact h4 j u hj⟩

section
variable {P : Program} {ops : Array Oper} {Q : Exit → Act → World → Prop} {a : Act} {w w0 : World} {rest : List Oper} {o : Oper} {As r : List HP} {e : TypeId} {v : Value}

theorem rdB_one {l : List UInt8} (H : Sat w0 w (rdB e v l :: As)) : v.oneCell' = true := by
  obtain ⟨⟨g, cap, cur, fr⟩, H⟩ := Sat.ex_iff.1 H
  obtain ⟨⟨h1, _⟩, _⟩ := Sat.prop_iff.1 (Sat.sep_iff.1 H)
  dsimp only at h1
  rw [h1]; rfl

/-- []byte(s). -/
theorem wl_str_bytes {t u : TypeId} {x : Operand} {s : ByteArray} (H : Sat w0 w As) (hop : o.op = .convert t u x) (hgd : Region.wanted o (yielded ops a.tmps) = true) (hx : a.eval x = .string s)
    (ht : StrTy P t) (hu : SliceTy P u e) (he : U8Ty P e) (hb : s.size ≤ 4294967296)
    (k : ∀ v' w', Sat w0 w' (rdB e v' s.data.toList :: As) → wpList P ops Q rest (a.put o.dst v') w') : wpList P ops Q (o :: rest) a w := by
  refine wl_of_wp hgd ?_
  have hsl : s.data.toList.length = s.size := by cases s; rfl
  have hrun := Lib.run_convert_string_bytes (P := P) w t u e s ht.u hu.u he.u
  have hs := k (.slice (some ⟨w.heap.size, 0, none⟩) s.size (grownCap w s.size 0 e)) (Lib.bytesWorld w e s) (Sat.ex_iff.2 ⟨(w.heap.size, grownCap w s.size 0 e, Lib.bytesCells w e s, _), Sat.sep_iff.2 (Sat.prop_iff.2 ⟨⟨by rw [hsl], by
      rw [hsl]; simpa using grownCap_ge w s.size 0 e, grownCap_le_maxLen w s.size 0 e (by unfold maxLen; omega), fun j u hj => by
        rw [all_bytes] at hj
        have hj1 := (List.getElem?_eq_some_iff.1 hj).1
        rw [List.length_map, hsl] at hj1
        unfold Lib.bytesCells
        rw [Array.getElem?_append_left (by simpa using hj1), Array.getElem?_map, ← Array.getElem?_toList]
        rw [List.getElem?_map] at hj
        exact hj⟩,
    H.new (w' := Lib.bytesWorld w e s) rfl rfl rfl (by rw [Lib.bytesWorld_size]; omega) (Lib.bytesWorld_at_new w e s) (fun j hj => Lib.bytesWorld_at_old w e s j hj)⟩)⟩)
  unfold Oper.wp execOp
  simp only [hop, hx, hrun, Sem.run_bind, Result.andThen_ok, Sem.run_pure]
  exact hs
end
end Go.SL
