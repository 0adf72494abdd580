/- A part of the proof: contracts of functions of the given program, and the laws on memory that they lean on. -/
import Derived.Test.YtcdkaggdidfenaaGreatDoorMSlDraw
import Derived.Laws.Append
import Derived.Laws.AppendOwn
import Derived.Laws.OwnMore
import Derived.Lib.LazyBuf
set_option linter.all false
namespace Go.SL
open Go Go.RowKit

/-- How a thing lies in cells. -/
structure Enc (α : Type) where
  k : Nat
  enc : α → List Value
  len : ∀ x, (enc x).length = k
  one : ∀ x, ∀ u ∈ enc x, u.oneCell' = true
  pos : 0 < k

def Enc.all {α : Type} (E : Enc α) (l : List α) : List Value := l.flatMap E.enc

theorem Enc.length_all {α : Type} (E : Enc α) (l : List α) : (E.all l).length = l.length * E.k := by
  induction l with
  | nil => simp [Enc.all]
  | cons x l ih => simp only [Enc.all, List.flatMap_cons, List.length_append, E.len, List.length_cons] at *; rw [ih, Nat.add_mul]; omega

theorem Enc.all_append {α : Type} (E : Enc α) (l m : List α) : E.all (l ++ m) = E.all l ++ E.all m := by simp [Enc.all]

theorem Enc.all_one {α : Type} (E : Enc α) (l : List α) : ∀ u ∈ E.all l, u.oneCell' = true := by
  intro u hu
  obtain ⟨x, _, hx⟩ := List.mem_flatMap.1 hu
  exact E.one x u hx

theorem Enc.get {α : Type} (E : Enc α) : ∀ (l : List α) (i j : Nat) (x : α), l[i]? = some x → j < E.k → (E.all l)[i * E.k + j]? = (E.enc x)[j]? := by
  intro l
  induction l with
  | nil => intro i j x h; simp at h
  | cons y l ih =>
    intro i j x h hj
    simp only [Enc.all, List.flatMap_cons]
    cases i with
    | zero =>
      simp at h; subst h
      rw [List.getElem?_append_left (by rw [E.len]; omega)]
      simp
    | succ i =>
      have h' : l[i]? = some x := by simpa using h
      rw [List.getElem?_append_right (by rw [E.len, Nat.add_mul]; omega), E.len]
      rw [show (i + 1) * E.k + j - E.k = i * E.k + j by rw [Nat.add_mul]; omega]
      exact ih i j x h' hj

/-- The slice v reads as l, in this world. -/
def RdSl {α : Type} (E : Enc α) (v : Value) (l : List α) (w : World) : Prop :=
  (v = .slice none 0 0 ∧ l = []) ∨ ∃ g off cap, v = .slice (some ⟨g, off, none⟩) l.length cap ∧ l.length ≤ cap ∧ cap ≤ maxLen ∧ (∀ j u, (E.all l)[j]? = some u → w.cell? ⟨g, off + j, none⟩ = some u)

inductive SlW where
  | nil
  | at (g n cap : Nat) (cur : Array Value)

structure OwnOk {α : Type} (E : Enc α) (v : Value) (l : List α) (g n cap : Nat) (cur : Array Value) : Prop where
  hv : v = .slice (some ⟨g, 0, none⟩) n cap
  hn : n = l.length
  hcap : n ≤ cap
  hmax : cap ≤ maxLen
  hsize : cur.size = cap * E.k
  htake : cur.toList.take (n * E.k) = E.all l

def SlW.hp {α : Type} (E : Enc α) (e : TypeId) (v : Value) (l : List α) : SlW → HP
  | .nil => .prop (v = .slice none 0 0 ∧ l = [])
  | .at g n cap cur => .sep (.prop (OwnOk E v l g n cap cur)) (.pt g (.cells cur e (0, 0)))

/-- The slice v holds l, and its array is owned. -/
def ownL {α : Type} (E : Enc α) (e : TypeId) (v : Value) (l : List α) : HP := .ex (SlW.hp E e v l)

section
variable {α : Type} {E : Enc α} {e : TypeId} {v : Value} {l : List α} {w0 w : World} {As : List HP}

theorem ownL_cases (H : Sat w0 w (ownL E e v l :: As)) : (v = .slice none 0 0 ∧ l = [] ∧ Sat w0 w As) ∨
    ∃ g cap cur, OwnOk E v l g l.length cap cur ∧ Sat w0 w (.pt g (.cells cur e (0, 0)) :: As) := by
  obtain ⟨s, H⟩ := Sat.ex_iff.1 H
  cases s with
  | nil => obtain ⟨⟨h1, h2⟩, H⟩ := Sat.prop_iff.1 H; exact .inl ⟨h1, h2, H⟩
  | «at» g n cap cur =>
    obtain ⟨h, H2⟩ := Sat.prop_iff.1 (Sat.sep_iff.1 H)
    obtain rfl := h.hn
    exact .inr ⟨g, cap, cur, h, H2⟩

theorem ownL_nil (H : Sat w0 w As) : Sat w0 w (ownL E e (.slice none 0 0) [] :: As) :=
  Sat.ex_iff.2 ⟨.nil, Sat.prop_iff.2 ⟨⟨rfl, rfl⟩, H⟩⟩

theorem ownL_mk {g cap : Nat} {cur : Array Value} (h : OwnOk E v l g l.length cap cur) (H : Sat w0 w (.pt g (.cells cur e (0, 0)) :: As)) : Sat w0 w (ownL E e v l :: As) :=
  Sat.ex_iff.2 ⟨.at g l.length cap cur, Sat.sep_iff.2 (Sat.prop_iff.2 ⟨h, H⟩)⟩

theorem ownL_read (H : Sat w0 w (ownL E e v l :: As)) : RdSl E v l w := by
  rcases ownL_cases H with ⟨h1, h2, _⟩ | ⟨g, cap, cur, h, H⟩
  · exact .inl ⟨h1, h2⟩
  · refine .inr ⟨g, 0, cap, h.hv, h.hcap, h.hmax, fun j u hj => ?_⟩
    rw [Nat.zero_add, cell_of_heap H.pt, ← Array.getElem?_toList]
    have ht := h.htake
    rw [← ht] at hj
    rw [List.getElem?_take] at hj
    split at hj
    · exact hj
    · cases hj

theorem RdSl.same {w' : World} (h : RdSl E v l w) (hc : ∀ a u, w.cell? a = some u → w'.cell? a = some u) : RdSl E v l w' := by
  rcases h with h | ⟨g, off, cap, h1, h2, h3, h4⟩
  · exact .inl h
  · exact .inr ⟨g, off, cap, h1, h2, h3, fun j u hj => hc _ _ (h4 j u hj)⟩

/-- What the base world's memory reads as, it reads as for ever. -/
theorem Sat.cell {a : Addr} {u : Value} (H : Sat w0 w As) (h : w0.cell? a = some u) : w.cell? a = some u := by
  rw [World.cell?_of_block (H.old a.block ?_)]; exact h
  by_cases hlt : a.block < w0.heap.size
  · exact hlt
  · simp [World.cell?, Array.getElem?_eq_none (Nat.le_of_not_lt hlt)] at h

theorem ownL_one (H : Sat w0 w (ownL E e v l :: As)) : v.oneCell' = true := by
  rcases ownL_cases H with ⟨rfl, _, _⟩ | ⟨g, cap, cur, h, _⟩
  · rfl
  · rw [h.hv]; rfl

theorem RdSl.one (h : RdSl E v l w) : v.oneCell' = true := by
  rcases h with ⟨rfl, _⟩ | ⟨g, off, cap, rfl, _⟩ <;> rfl

theorem RdSl.imm {w1 : World} (H : Sat w0 w (.imm w1 :: As)) (h : RdSl E v l w1) : RdSl E v l w := h.same fun a u hc => by
  rw [World.cell?_of_block (H.imm_block ?_)]; exact hc
  by_cases hlt : a.block < w1.heap.size
  · exact hlt
  · simp [World.cell?, Array.getElem?_eq_none (Nat.le_of_not_lt hlt)] at hc

theorem RdSl.base (H : Sat w0 w As) (h : RdSl E v l w0) : RdSl E v l w := h.same fun _ _ hc => H.cell hc
end

/-- In whatever world meets the assertions v reads as l. -/
class RdV {α : Type} (E : Enc α) (As : List HP) (v : Value) (l : outParam (List α)) : Prop where
  get : ∀ {w0 w : World}, Sat w0 w As → RdSl E v l w

section
variable {α : Type} {E : Enc α} {e : TypeId} {v : Value} {l : List α} {As r : List HP}
instance (priority := 2000) RdV.nil : RdV E As (.slice none 0 0) [] := ⟨fun _ => .inl ⟨rfl, rfl⟩⟩
instance (priority := 1500) RdV.own : RdV E (ownL E e v l :: As) v l := ⟨ownL_read⟩
instance RdV.there {B : HP} [h : RdV E As v l] : RdV E (B :: As) v l := ⟨fun H => h.get H.drop⟩

/-- The slice v, owned; nil is owned by whoever wants it. -/
class HasL {α : Type} (E : Enc α) (e : TypeId) (v : Value) (As : List HP) (l : outParam (List α)) (rest : outParam (List HP)) : Prop where
  conv : ∀ {w : World} {I S : Nat → Prop}, satL w I As S → satL w I (ownL E e v l :: rest) S
theorem HasL.get {w0 w : World} [h : HasL E e v As l r] (H : Sat w0 w As) : Sat w0 w (ownL E e v l :: r) := H.mapL fun _ _ _ hh => h.conv hh
/-- The slice v, owned, whatever its array's name. -/
class HasO {α : Type} (E : Enc α) (e : outParam TypeId) (v : Value) (As : List HP) (l : outParam (List α)) (rest : outParam (List HP)) : Prop where
  conv : ∀ {w : World} {I S : Nat → Prop}, satL w I As S → satL w I (ownL E e v l :: rest) S
theorem HasO.get {w0 w : World} [h : HasO E e v As l r] (H : Sat w0 w As) : Sat w0 w (ownL E e v l :: r) := H.mapL fun _ _ _ hh => h.conv hh
instance (priority := 1500) HasO.here : HasO E e v (ownL E e v l :: As) l As := ⟨id⟩
instance HasO.there {B : HP} [h : HasO E e v As l r] : HasO E e v (B :: As) l (B :: r) :=
  ⟨fun ⟨S1, S2, d, s1, s2, hB, hr⟩ => satL_swap ⟨S1, S2, d, s1, s2, hB, h.conv hr⟩⟩
instance (priority := 2000) HasL.nil : HasL E e (.slice none 0 0) As [] As := ⟨fun hh => ⟨fun _ => False, _, fun _ h _ => h, fun _ h => h.elim, fun _ h => h, ⟨.nil, rfl, rfl⟩, hh⟩⟩
instance (priority := 1500) HasL.here : HasL E e v (ownL E e v l :: As) l As := ⟨id⟩
instance HasL.there {B : HP} [h : HasL E e v As l r] : HasL E e v (B :: As) l (B :: r) :=
  ⟨fun ⟨S1, S2, d, s1, s2, hB, hr⟩ => satL_swap ⟨S1, S2, d, s1, s2, hB, h.conv hr⟩⟩
end
end Go.SL

namespace Go.SL
open Go Go.RowKit

/-- What the cells us tell. -/
class Dec {α : Type} (E : Enc α) (us : List Value) (y : outParam α) : Prop where eq : E.enc y = us
/-- What the values us tell. -/
class DecL {α : Type} (E : Enc α) (us : List Value) (ys : outParam (List α)) : Prop where eq : us.map (fun u => u.cells.toList) = ys.map E.enc
instance {α : Type} {E : Enc α} : DecL E [] [] := ⟨rfl⟩
instance {α : Type} {E : Enc α} {u : Value} {us : List Value} {y : α} {ys : List α} [h : Dec E u.cells.toList y] [k : DecL E us ys] : DecL E (u :: us) (y :: ys) :=
  ⟨by rw [List.map_cons, List.map_cons, h.eq, k.eq]⟩
/-- An aggregate's cells. -/
instance {α : Type} {E : Enc α} {cs : List Value} {y : α} [h : Dec E cs y] : Dec E (Value.agg cs.toArray).cells.toList y := ⟨h.eq⟩
instance {α : Type} {E : Enc α} {q : IntKind} {n : Int} {y : α} [h : Dec E [.int q n] y] : Dec E (Value.int q n).cells.toList y := ⟨h.eq⟩
instance {α : Type} {E : Enc α} {s : ByteArray} {y : α} [h : Dec E [.string s] y] : Dec E (Value.string s).cells.toList y := ⟨h.eq⟩
instance {α : Type} {E : Enc α} {s : Bool} {y : α} [h : Dec E [.bool s] y] : Dec E (Value.bool s).cells.toList y := ⟨h.eq⟩
instance {α : Type} {E : Enc α} {a : Option Addr} {n c : Nat} {y : α} [h : Dec E [.slice a n c] y] : Dec E (Value.slice a n c).cells.toList y := ⟨h.eq⟩
instance {α : Type} {E : Enc α} {a : Option Addr} {y : α} [h : Dec E [.pointer a] y] : Dec E (Value.pointer a).cells.toList y := ⟨h.eq⟩

class SliceTy (P : Program) (t : TypeId) (e : outParam TypeId) : Prop where
  u : P.underlying t = some (.slice e)

@[go_sem ↓] theorem eql_slice_nil {P : Program} {w : World} {t e : TypeId} [h : SliceTy P t e] (a : Option Addr) (l c : Nat) : (binOp .eql t (.slice a l c) (.slice none 0 0)).run P w = .ok (.bool a.isNone) w :=
  run_eql_slice_nil w t e a l c h.u

/-- The table's row of an element type. -/
class ElemTy (P : Program) (e : TypeId) (k : outParam Nat) : Prop where
  info : ∃ i z, P.info? e = some i ∧ i.zero = some z ∧ i.size = k ∧ i.bytes ≤ 128 ∧ z.cells.size = k
  small : k ≤ 128

section
variable {P : Program} {ops : Array Oper} {Q : Exit → Act → World → Prop} {a : Act} {w w0 : World} {rest : List Oper} {o : Oper} {As r : List HP}
variable {α : Type} {E : Enc α} {e : TypeId} {v : Value} {l : List α}

theorem nextcap_le {need old : Nat} (h : old < need) : Builtin.nextslicecap need old ≤ 2 * need + 1024 := by
  unfold Builtin.nextslicecap
  split
  · omega
  · split
    · omega
    · have : ∀ (r c : Nat), c < need → Builtin.growBy need r c ≤ 2 * need + 1024 := by
        intro r
        induction r with
        | zero => intro c hc; simp only [Builtin.growBy]; omega
        | succ r ih =>
          intro c hc
          simp only [Builtin.growBy]
          rw [if_neg (by omega)]
          by_cases h2 : c + (c + 768) / 4 < need
          · exact ih _ h2
          · cases r with
            | zero => simp only [Builtin.growBy]; omega
            | succ r => simp only [Builtin.growBy]; rw [if_pos (by omega)]; omega
      exact this 4 old h

/-- append(s, x...): s owned, x read. -/
theorem run_append {t ty : TypeId} (H : Sat w0 w As) (ht : SliceTy P t e) (he : ElemTy P e E.k) (hs : HasL E e v As l r)
    {vx : Value} {m : List α} (hx : RdSl E vx m w) (hb : l.length + m.length ≤ 4294967296) :
    ∃ v' w', (Builtin.append_ #[t, t] ty #[v, vx]).run P w = .ok v' w' ∧ Sat w0 w' (ownL E e v' (l ++ m) :: r) ∧ (v' = .slice none 0 0 → l ++ m = []) := by
  have H1 := hs.get H
  obtain ⟨i, z, hi, hz, hk, hby, hzc⟩ := he.info
  have hml : ∀ n, n ≤ 4294967296 → n ≤ maxLen := fun n hn => by unfold maxLen; omega
  have hint : ∀ n : Nat, n ≤ 4294967296 → (n : Int) ≤ 9223372036854775807 := fun n hn => by omega
  have hgc := fun (w : World) need old => grownCap_ge w need old e
  have hb1 : ∀ n, n ≤ 4294967296 → n * i.bytes ≤ 140737488355328 := fun n hn => by
    have := Nat.mul_le_mul hn hby; omega
  have hcapb : ∀ n, n ≤ 4294967296 → ∀ c, c ≤ 2 * n + 1024 → c * i.bytes ≤ 281474976710656 := fun n hn c hc => by
    have h1 := Nat.mul_le_mul hc hby
    refine Nat.le_trans h1 ?_
    omega
  rcases hx with ⟨rfl, rfl⟩ | ⟨gx, ox, cx, rfl, hxc, hxm, hxr⟩
  · -- nothing is appended
    refine ⟨v, w, ?_, by simpa using H1, fun h => ?_⟩
    · rcases ownL_cases H1 with ⟨rfl, rfl, _⟩ | ⟨g, cap, cur, h, _⟩
      · simp [Builtin.append_, run_underlying ht.u, sizeOf, typeInfo, hi, Builtin.lenOf, Builtin.firstCells]
      · have := h.hcap
        obtain rfl := h.hv
        simp [Builtin.append_, run_underlying ht.u, sizeOf, typeInfo, hi, Builtin.lenOf, Builtin.firstCells, this, storeCells]
    · rcases ownL_cases H1 with ⟨_, rfl, _⟩ | ⟨g, cap, cur, h', _⟩
      · rfl
      · rw [h'.hv] at h; cases h
  have hnews : ∀ j u, (E.all m)[j]? = some u → w.cell? ((⟨gx, ox, none⟩ : Addr).add j) = some u := fun j u hj => by rw [Addr.add_lit]; exact hxr j u hj
  have hlen : (E.all m).length = m.length * i.size := by rw [hk]; exact E.length_all m
  have hzs : ∀ n, (Builtin.zeroCells z.cells n).size = n * E.k := fun n => by rw [size_zeroCells, hzc]
  rcases ownL_cases H1 with ⟨rfl, rfl, H2⟩ | ⟨g, cap, cur, h, H2⟩
  · by_cases hm : m.length = 0
    · obtain rfl := List.eq_nil_of_length_eq_zero hm
      refine ⟨.slice none 0 0, w, ?_, by simpa using ownL_nil H2, fun _ => rfl⟩
      simp [Builtin.append_, run_underlying ht.u, sizeOf, typeInfo, hi, Builtin.lenOf, Builtin.firstCells, loadCells, loadCellsFrom]
    · have hr := run_append_nil (P := P) w t ty e i z ht.u hi hz ⟨gx, ox, none⟩ m.length cx (E.all m) hlen hnews (by omega) (hint _ (by simp at hb; omega)) (by have := hb1 m.length (by simp at hb; omega); omega)
      refine ⟨_, _, hr, ?_, fun h => by cases h⟩
      refine ownL_mk (l := [] ++ m) (cap := grownCap w m.length 0 e) ?_ (H2.drew.alloc _)
      have hg := hgc w m.length 0
      have hgm := grownCap_le_maxLen w m.length 0 e (hml _ (by simp at hb; omega))
      refine ⟨by simp, rfl, by simpa using hg, hgm, ?_, ?_⟩
      · simp only [Array.size_append, List.size_toArray, E.length_all, hzs, ← Nat.add_mul]
        congr 1; omega
      · simp only [Array.toList_append, List.nil_append]
        rw [← E.length_all]
        exact List.take_left
  · obtain rfl := h.hv
    by_cases hroom : l.length + m.length ≤ cap
    · have hfit : l.length * i.size + (E.all m).length ≤ cur.size := by
        rw [hlen, hk, h.hsize, ← Nat.add_mul]; exact Nat.mul_le_mul_right _ hroom
      have hr := run_append_room (P := P) w t ty e i ht.u hi g l.length cap cur H2.pt ⟨gx, ox, none⟩ m.length cx (E.all m) hlen hnews (E.all_one m) hroom hfit
      refine ⟨_, _, hr, ?_, fun h => by cases h⟩
      have hset : Sat w0 (w.setRow g (cur.toList.take (l.length * i.size) ++ E.all m ++ cur.toList.drop (l.length * i.size + (E.all m).length)).toArray)
          (.pt g (.cells (cur.toList.take (l.length * i.size) ++ E.all m ++ cur.toList.drop (l.length * i.size + (E.all m).length)).toArray e (0, 0)) :: r) :=
        H2.turn rfl rfl rfl (by simp [World.setRow]) (setRow_heap w g cur _ e _ H2.pt) (fun k _ hne => setRow_other w g k _ hne)
      refine ownL_mk (l := l ++ m) (cap := cap) ?_ (by simpa using hset)
      have hsz := h.hsize
      have htk := h.htake
      rw [hk, hsz] at hfit
      refine ⟨by simp, rfl, by simpa using hroom, h.hmax, ?_, ?_⟩
      · simp only [List.size_toArray, List.length_append, List.length_take, List.length_drop, Array.length_toList, hk, hsz]
        have : l.length * E.k ≤ cap * E.k := Nat.mul_le_mul_right _ h.hcap
        omega
      · rw [hk, htk, E.all_append, List.length_append, Nat.add_mul]
        have e1 : l.length * E.k + m.length * E.k = (E.all l ++ E.all m).length := by rw [List.length_append, E.length_all, E.length_all]
        show List.take _ (E.all l ++ (E.all m ++ _)) = _
        rw [e1, ← List.append_assoc]
        exact List.take_left
    · have holds : ∀ j u, (E.all l)[j]? = some u → w.cell? ((⟨g, 0, none⟩ : Addr).add j) = some u := fun j u hj => by
        rw [Addr.add_lit, Nat.zero_add, cell_of_heap H2.pt, ← Array.getElem?_toList]
        rw [← h.htake, List.getElem?_take] at hj
        split at hj
        · exact hj
        · cases hj
      have hnx := nextcap_le (need := l.length + m.length) (old := cap) (by omega)
      have hr := run_append_grow (P := P) w t ty e i z ht.u hi hz ⟨g, 0, none⟩ l.length cap (E.all l) (by rw [hk]; exact E.length_all l) holds ⟨gx, ox, none⟩ m.length cx (E.all m) hlen hnews
        (Nat.lt_of_not_le hroom) (hint _ hb) (hcapb _ hb _ hnx)
      refine ⟨_, _, hr, ?_, fun h => by cases h⟩
      refine ownL_mk (l := l ++ m) (cap := grownCap w (l.length + m.length) cap e) ?_ (by simpa using H2.drop.drew.alloc _)
      have hg := hgc w (l.length + m.length) cap
      have hgm := grownCap_le_maxLen w (l.length + m.length) cap e (hml _ hb)
      refine ⟨by simp, rfl, by simpa using hg, hgm, ?_, ?_⟩
      · simp only [Array.size_append, List.size_toArray, E.length_all, hzs, List.length_append, ← Nat.add_mul]
        congr 1; omega
      · simp only [Array.toList_append]
        rw [List.length_append, Nat.add_mul, ← E.length_all, ← E.length_all, ← List.length_append, E.all_append]
        exact List.take_left

theorem wl_append {s x : Operand} {t : TypeId} {vx : Value} {m : List α} (E : Enc α) (H : Sat w0 w As) (hop : o.op = .call { callee := .builtin .append, args := #[s, x], argTypes := #[t, t] })
    (hgd : Region.wanted o (yielded ops a.tmps) = true) (hs : a.eval s = v) (hx : a.eval x = vx) (ht : SliceTy P t e) (he : ElemTy P e E.k) (hv : HasL E e v As l r) (hr : RdV E As vx m)
    (hb : l.length + m.length ≤ 4294967296)
    (k : ∀ v' w', Sat w0 w' (ownL E e v' (l ++ m) :: r) → wpList P ops Q rest (a.put o.dst v') w') : wpList P ops Q (o :: rest) a w := by
  refine wl_of_wp hgd ?_
  obtain ⟨v', w', hrun, H', _⟩ := run_append (P := P) (ty := o.type) (t := t) (v := v) (r := r) (l := l) H ht he hv (hr.get H) hb
  unfold Oper.wp
  simp [execOp, hop, resolve, invoke, builtin, hs, hx, hrun, Result.andThen]
  exact k v' w' H'

/-- Cells laid one behind the other. -/
theorem foldl_lay (off : Nat) : ∀ (l : List Value) (s : Nat) (C : Array Value), off + s + l.length ≤ C.size →
    ((l.zipIdx s).foldl (fun cs (p : Value × Nat) => cs.setIfInBounds (off + p.2) p.1) C).toList = C.toList.take (off + s) ++ l ++ C.toList.drop (off + s + l.length) := by
  intro l
  induction l with
  | nil => intro s C h; simp
  | cons u l ih =>
    intro s C h
    simp only [List.length_cons] at h
    simp only [List.zipIdx_cons, List.foldl_cons]
    rw [ih (s + 1) _ (by simp; omega)]
    have hlt : off + s < C.toList.length := by simp; omega
    rw [Array.toList_setIfInBounds]
    have e1 : (C.toList.set (off + s) u).take (off + (s + 1)) = C.toList.take (off + s) ++ [u] := by
      rw [← Nat.add_assoc, List.take_succ_eq_append_getElem (by simpa using hlt), List.take_set_of_le (Nat.le_refl _)]
      simp
    have e2 : (C.toList.set (off + s) u).drop (off + (s + 1) + l.length) = C.toList.drop (off + s + (l.length + 1)) := by
      rw [List.drop_set_of_lt (by omega)]
      congr 1; omega
    rw [e1, e2]
    simp

theorem fill_lay {k : Nat} : ∀ (us : List Value) (m : Nat) (C : Array Value), (∀ u ∈ us, u.cells.size = k) → (m + us.length) * k ≤ C.size →
    Instr.fill (fun i => some (i * k, k)) C ((us.zipIdx m).map fun p => (p.2, p.1)) =
      some (C.toList.take (m * k) ++ us.flatMap (fun u => u.cells.toList) ++ C.toList.drop ((m + us.length) * k)).toArray := by
  intro us
  induction us with
  | nil => intro m C _ _; simp [Instr.fill]
  | cons u us ih =>
    intro m C hu hC
    simp only [List.length_cons] at hC
    have hk := hu u (List.mem_cons_self ..)
    have e1 : m * k + k ≤ C.size := by
      have : (m + 1) * k ≤ (m + (us.length + 1)) * k := Nat.mul_le_mul_right _ (by omega)
      rw [Nat.add_mul, Nat.one_mul] at this
      omega
    have hlay := foldl_lay (m * k) u.cells.toList 0 C (by simp [hk]; omega)
    simp only [List.zipIdx_cons, List.map_cons, Instr.fill]
    rw [if_neg (by simp [hk]; omega)]
    have hsz : (u.cells.zipIdx.foldl (fun cs (x : Value × Nat) => match x with | (c, j) => cs.setIfInBounds (m * k + j) c) C).toList = C.toList.take (m * k) ++ u.cells.toList ++ C.toList.drop (m * k + k) := by
      rw [← Array.foldl_toList, Array.toList_zipIdx]
      simpa [hk] using hlay
    have hsize : (u.cells.zipIdx.foldl (fun cs (x : Value × Nat) => match x with | (c, j) => cs.setIfInBounds (m * k + j) c) C).size = C.size := by
      rw [← Array.length_toList, hsz]
      simp [hk]; omega
    rw [ih (m + 1) _ (fun x hx => hu x (List.mem_cons_of_mem _ hx)) (by rw [hsize]; rw [show m + 1 + us.length = m + (us.length + 1) by omega]; exact hC), hsz]
    have e3 : ((m + 1) * k) = (C.toList.take (m * k) ++ u.cells.toList).length := by simp [hk, Nat.add_mul]; omega
    congr 2
    rw [e3, List.take_left]
    simp only [List.flatMap_cons, ← List.append_assoc]
    congr 1
    have e4 : (m + 1 + us.length) * k = (C.toList.take (m * k) ++ u.cells.toList).length + us.length * k := by rw [← e3, ← Nat.add_mul]
    rw [e4, List.drop_length_add_append, List.drop_drop]
    congr 1
    rw [List.length_cons, ← Nat.add_assoc, Nat.add_mul, Nat.add_mul, Nat.one_mul]
    omega

/-- A slice literal. -/
theorem wl_build {t : TypeId} {parts : Array (Nat × Operand)} {n : Nat} {ys : List α} {us : List Value} (E : Enc α) (H : Sat w0 w As) (hop : o.op = .buildSlice t n parts) (hgd : Region.wanted o (yielded ops a.tmps) = true)
    (hx : (parts.map fun p => (p.1, a.eval p.2)).toList = (us.zipIdx).map fun p => (p.2, p.1)) (hn : us.length = n) (ht : SliceTy P t e) (he : ElemTy P e E.k) (hy : us.map (fun u => u.cells.toList) = ys.map E.enc) (hb : n ≤ 4096)
    (k : ∀ v' w', Sat w0 w' (ownL E e v' ys :: As) → wpList P ops Q rest (a.put o.dst v') w') : wpList P ops Q (o :: rest) a w := by
  refine wl_of_wp hgd ?_
  obtain ⟨i, z, hi, hz, hk, hby, hzc⟩ := he.info
  have hsm := he.small
  have hlen : us.length = ys.length := by have := congrArg List.length hy; simpa using this
  have hus : ∀ u ∈ us, u.cells.size = E.k := fun u hu => by
    have : u.cells.toList ∈ ys.map E.enc := hy ▸ List.mem_map.2 ⟨u, hu, rfl⟩
    obtain ⟨y, _, hyu⟩ := List.mem_map.1 this
    rw [← Array.length_toList, ← hyu, E.len]
  have hfl : us.flatMap (fun u => u.cells.toList) = E.all ys := by
    rw [List.flatMap_def, hy, Enc.all, List.flatMap_def]
  have hfill : ∀ C : Array Value, C.size = n * E.k → Instr.fill (fun i => some (i * E.k, E.k)) C (parts.map fun p => (p.1, a.eval p.2)).toList = some (E.all ys).toArray := fun C hC => by
    rw [hx, fill_lay us 0 C hus (by rw [hC, hn]; simp), hfl]
    have : C.toList.drop ((0 + us.length) * E.k) = [] := List.drop_eq_nil_of_le (by simp [hC, hn])
    rw [this]; simp
  have hbig : ¬ (16777216 < n * E.k) := by
    have := Nat.mul_le_mul hb hsm
    omega
  have hrun : (Instr.buildSlice t n (parts.map fun p => (p.1, a.eval p.2))).run P w = .ok (.slice (some ⟨w.heap.size, 0, none⟩) n n) (w.alloc (.cells (E.all ys).toArray e)) := by
    by_cases h0 : n * E.k = 0
    · simp only [Instr.buildSlice, Sem.run_bind, run_underlying ht.u, Result.andThen_ok, sizeOf, typeInfo, program, Sem.run, hi, hk, Sem.run_pure, h0]
      simp only [Nat.not_lt_zero, if_false, if_true, Sem.run_pure, Sem.run_bind, Result.andThen_ok, gt_iff_lt]
      rw [hfill _ (by simp [h0])]
      simp [newRow, newObj, Sem.run]
    · simp only [Instr.buildSlice, Sem.run_bind, run_underlying ht.u, Result.andThen_ok, sizeOf, typeInfo, program, Sem.run, hi, hk, Sem.run_pure, h0, if_false, gt_iff_lt, Nat.reducePow, hbig, zeroValue, hz]
      rw [hfill _ (by simp)]
      simp [newRow, newObj, Sem.run]
  have hs := k _ _ (ownL_mk (E := E) (e := e) (l := ys) (cap := n) (v := .slice (some ⟨w.heap.size, 0, none⟩) n n) ⟨by rw [← hlen, hn], rfl, by omega, by unfold maxLen; omega, by simp [E.length_all, ← hlen, hn], by simp [← E.length_all]⟩ (H.alloc (.cells (E.all ys).toArray e (0, 0))))
  unfold Oper.wp execOp
  simp only [hop, Sem.run_bind, hrun, Result.andThen_ok, Sem.run_pure]
  exact hs

inductive EvL (a : Act) : List (Nat × Operand) → List Value → Prop
  | nil : EvL a [] []
  | cons {i : Nat} {x : Operand} {ps : List (Nat × Operand)} {u : Value} {us : List Value} (h : a.eval x = u) (k : EvL a ps us) : EvL a ((i, x) :: ps) (u :: us)
theorem EvL.eq {a : Act} {ps : List (Nat × Operand)} {us : List Value} (h : EvL a ps us) : ps.map (fun p => a.eval p.2) = us := by
  induction h with
  | nil => rfl
  | cons h _ ih => simp [h, ih]

theorem wl_buildN {t : TypeId} {parts : Array (Nat × Operand)} {n : Nat} {ys : List α} {us : List Value} (E : Enc α) (H : Sat w0 w As) (hop : o.op = .buildSlice t n parts) (hgd : Region.wanted o (yielded ops a.tmps) = true)
    (hi : parts.toList.map (·.1) = List.range n) (hx' : EvL a parts.toList us) (ht : SliceTy P t e) (he : ElemTy P e E.k) (hy : DecL E us ys) (hb : n ≤ 4096)
    (k : ∀ v' w', Sat w0 w' (ownL E e v' ys :: As) → wpList P ops Q rest (a.put o.dst v') w') : wpList P ops Q (o :: rest) a w := by
  have hx := hx'.eq
  have hl : us.length = n := by rw [← hx, List.length_map]; have := congrArg List.length hi; simpa using this
  refine wl_build (us := us) E H hop hgd ?_ hl ht he hy.eq hb k
  apply List.ext_getElem?
  intro i
  have h1 := congrArg (·[i]?) hi
  have h2 := congrArg (·[i]?) hx
  simp only [List.getElem?_map] at h1 h2
  simp only [Array.toList_map, List.getElem?_map, List.getElem?_zipIdx, ← h2]
  cases hp : parts.toList[i]? with
  | none => simp
  | some p =>
    rw [hp] at h1
    have : i < n := by
      by_cases hlt : i < n
      · exact hlt
      · rw [List.getElem?_eq_none (by simpa using hlt)] at h1; simp at h1
    rw [List.getElem?_range this] at h1
    simp at h1
    simp [h1]

theorem wl_build1 {t : TypeId} {x : Operand} {y : α} {u : Value} {us : List Value} (E : Enc α) (H : Sat w0 w As) (hop : o.op = .buildSlice t 1 #[(0, x)]) (hgd : Region.wanted o (yielded ops a.tmps) = true)
    (hx : a.eval x = u) (ht : SliceTy P t e) (he : ElemTy P e E.k) (hu : u.cells.toList = us) (hy : Dec E us y)
    (k : ∀ v' w', Sat w0 w' (ownL E e v' [y] :: As) → wpList P ops Q rest (a.put o.dst v') w') : wpList P ops Q (o :: rest) a w :=
  wl_build (us := [u]) (ys := [y]) E H hop hgd (by simp [hx]) rfl ht he (by simp [hu, hy.eq]) (by omega) k

theorem wl_build0 {t : TypeId} (E : Enc α) (H : Sat w0 w As) (hop : o.op = .buildSlice t 0 #[]) (hgd : Region.wanted o (yielded ops a.tmps) = true)
    (ht : SliceTy P t e) (he : ElemTy P e E.k)
    (k : ∀ v' w', Sat w0 w' (ownL E e v' ([] : List α) :: As) → wpList P ops Q rest (a.put o.dst v') w') : wpList P ops Q (o :: rest) a w :=
  wl_build (us := []) (ys := []) E H hop hgd (by simp) rfl ht he rfl (by omega) k
end
end Go.SL

namespace Go.SL
open Go Go.RowKit

/-- The address of element i of a slice. -/
@[irreducible] def elemPtr (k : Nat) (v : Value) (i : Nat) : Value := match v with
  | .slice (some a) _ _ => .pointer (some (a.add (i * k)))
  | _ => .pointer none

section
variable {P : Program} {ops : Array Oper} {Q : Exit → Act → World → Prop} {a : Act} {w w0 : World} {rest : List Oper} {o : Oper} {As r : List HP}
variable {α : Type} {E : Enc α} {e : TypeId} {v : Value} {l : List α}

theorem elemPtr_slice (k : Nat) (ad : Addr) (n c i : Nat) : elemPtr k (.slice (some ad) n c) i = .pointer (some (ad.add (i * k))) := by unfold elemPtr; rfl

theorem RdSl.len (h : RdSl E v l w) : ∃ ad cap, v = .slice ad l.length cap := by
  rcases h with ⟨rfl, rfl⟩ | ⟨g, off, cap, rfl, _⟩
  · exact ⟨none, 0, rfl⟩
  · exact ⟨_, cap, rfl⟩

/-- len of a slice. -/
theorem wl_len {x : Operand} {t : TypeId} (E : Enc α) (H : Sat w0 w As) (hop : o.op = .call { callee := .builtin .len, args := #[x], argTypes := #[t] }) (hgd : Region.wanted o (yielded ops a.tmps) = true)
    (hx : a.eval x = v) (ht : SliceTy P t e) (hr : RdV E As v l) (k : wpList P ops Q rest (a.put o.dst (.int .i64 l.length)) w) : wpList P ops Q (o :: rest) a w := by
  refine wl_of_wp hgd ?_
  obtain ⟨ad, cap, rfl⟩ := (hr.get H).len
  unfold Oper.wp
  simp [execOp, hop, resolve, invoke, builtin, hx, Result.andThen, Builtin.len_, run_underlying ht.u, goInt]
  exact k

/-- The address of an element. -/
theorem wl_index {t : TypeId} {x y : Operand} {kd : IntKind} {i : Int} (E : Enc α) (H : Sat w0 w As) (hop : o.op = .indexAddr t x y) (hgd : Region.wanted o (yielded ops a.tmps) = true)
    (hx : a.eval x = v) (hy : a.eval y = .int kd i) (ht : SliceTy P t e) (he : ElemTy P e E.k) (hr : RdV E As v l) (h0 : 0 ≤ i) (h1 : i < l.length)
    (k : wpList P ops Q rest (a.put o.dst (elemPtr E.k v i.toNat)) w) : wpList P ops Q (o :: rest) a w := by
  refine wl_of_wp hgd ?_
  obtain ⟨inf, z, hi, hz, hk, hby, hzc⟩ := he.info
  rcases hr.get H with ⟨rfl, rfl⟩ | ⟨g, off, cap, rfl, _⟩
  · simp at h1; omega
  · unfold Oper.wp
    rw [elemPtr_slice] at k
    simp [execOp, hop, hx, hy, Instr.indexAt, asIntOf, run_underlying ht.u, h0, h1, sizeOf, typeInfo, hi, hk]
    exact k

/-- An element of one cell is loaded. -/
theorem wl_elem {ty : TypeId} {x : Operand} {i : Nat} {y : α} {u : Value} (E : Enc α) (H : Sat w0 w As) (hop : o.op = .load ty x) (hgd : Region.wanted o (yielded ops a.tmps) = true)
    (hx : a.eval x = elemPtr E.k v i) (h1 : OneCell P ty) (hr : RdV E As v l) (hi : l[i]? = some y) (hu : (E.enc y) = [u])
    (k : wpList P ops Q rest (a.put o.dst u) w) : wpList P ops Q (o :: rest) a w := by
  refine wl_of_wp hgd ?_
  rcases hr.get H with ⟨rfl, rfl⟩ | ⟨g, off, cap, rfl, _, _, hc⟩
  · simp at hi
  · have hk : E.k = 1 := by rw [← E.len y, hu]; rfl
    have hg := E.get l i 0 y hi E.pos
    rw [hu] at hg
    have hc' := hc _ _ hg
    simp only [hk, Nat.mul_one, Nat.add_zero] at hc'
    have hl : (load ⟨g, off + i, none⟩).run P w = .ok u w := by simp [load, Sem.run, hc']
    simp only [elemPtr_slice, Addr.add_lit, hk, Nat.mul_one] at hx
    unfold Oper.wp execOp
    simp only [hop, hx, Instr.loadAt, Instr.sureAddr, loadVar, Sem.run_bind, Sem.run_pure, Result.andThen_ok, h1.agg, Bool.false_eq_true, if_false, hl]
    exact k

/-- An element of several cells is loaded. -/
theorem wl_elem_agg {ty : TypeId} {x : Operand} {i : Nat} {y : α} {n : Nat} {us : List Value} (E : Enc α) (H : Sat w0 w As) (hop : o.op = .load ty x) (hgd : Region.wanted o (yielded ops a.tmps) = true)
    (hx : a.eval x = elemPtr E.k v i) (h1 : AggOf P ty n) (hr : RdV E As v l) (hi : l[i]? = some y) (hn : n = E.k) (hu : E.enc y = us)
    (k : wpList P ops Q rest (a.put o.dst (.agg us.toArray)) w) : wpList P ops Q (o :: rest) a w := by
  subst hu
  refine wl_of_wp hgd ?_
  rcases hr.get H with ⟨rfl, rfl⟩ | ⟨g, off, cap, rfl, _, _, hc⟩
  · simp at hi
  · have hrun : (loadCells ⟨g, off + i * E.k, none⟩ (E.enc y).length).run P w = .ok (E.enc y).toArray w :=
      run_loadCells_list (P := P) w ⟨g, off + i * E.k, none⟩ (E.enc y) (fun j u hj => by
        have hjk : j < E.k := by rw [← E.len y]; exact (List.getElem?_eq_some_iff.1 hj).1
        have hg := E.get l i j y hi hjk
        rw [hj] at hg
        have := hc _ _ hg
        rw [Addr.add_lit, Nat.add_assoc]; exact this)
    rw [E.len] at hrun
    simp only [elemPtr_slice, Addr.add_lit] at hx
    unfold Oper.wp execOp
    simp only [hop, hx, Instr.loadAt, Instr.sureAddr, loadVar, Sem.run_bind, Sem.run_pure, Result.andThen_ok, h1.agg, if_true, h1.size, hn, hrun]
    exact k

end

/-- A value of one cell. -/
structure V1 where
  v : Value
  one : v.oneCell' = true
abbrev v1E : Enc V1 := ⟨1, fun u => [u.v], fun _ => rfl, fun x u hu => by simp at hu; subst hu; exact x.one, by omega⟩
abbrev intE : Enc Int := ⟨1, fun n => [.int .i64 n], fun _ => rfl, fun x u hu => by simp at hu; subst hu; rfl, by omega⟩
abbrev strE : Enc ByteArray := ⟨1, fun s => [.string s], fun _ => rfl, fun x u hu => by simp at hu; subst hu; rfl, by omega⟩
abbrev byteE : Enc UInt8 := ⟨1, fun n => [.int .u8 n.toNat], fun _ => rfl, fun x u hu => by simp at hu; subst hu; rfl, by omega⟩
instance {n : Int} : Dec intE [.int .i64 n] n := ⟨rfl⟩
instance {t : ByteArray} : Dec strE [.string t] t := ⟨rfl⟩
instance {u : Value} [h : One1 u] : Dec v1E [u] ⟨u, h.one⟩ := ⟨rfl⟩

end Go.SL

namespace Go.SL
open Go Go.RowKit
section
variable {P : Program} {ops : Array Oper} {Q : Exit → Act → World → Prop} {a : Act} {w w0 : World} {rest : List Oper} {o : Oper} {As r : List HP}
variable {α : Type} {E : Enc α} {e : TypeId} {v : Value} {l : List α}

/-- What v[lo:hi] is. -/
@[irreducible] def sub (k : Nat) (v : Value) (lo hi : Nat) : Value := match v with
  | .slice a _ cap => .slice (if cap = lo then a else a.map (·.add (lo * k))) (hi - lo) (cap - lo)
  | u => u

theorem sub_slice (k : Nat) (ad : Option Addr) (n cap lo hi : Nat) : sub k (.slice ad n cap) lo hi = .slice (if cap = lo then ad else ad.map (·.add (lo * k))) (hi - lo) (cap - lo) := by unfold sub; rfl

theorem Enc.all_take_drop {α : Type} (E : Enc α) (l : List α) (lo n : Nat) : ∀ j u, (E.all ((l.drop lo).take n))[j]? = some u → (E.all l)[lo * E.k + j]? = some u := by
  intro j u h
  have e1 : l = l.take lo ++ ((l.drop lo).take n ++ (l.drop lo).drop n) := by rw [List.take_append_drop, List.take_append_drop]
  by_cases hlo : lo ≤ l.length
  · have e2 : (E.all (l.take lo)).length = lo * E.k := by rw [E.length_all, List.length_take, Nat.min_eq_left hlo]
    rw [e1, E.all_append, E.all_append, List.getElem?_append_right (by rw [e2]; omega), e2, show lo * E.k + j - lo * E.k = j by omega]
    rw [List.getElem?_append_left (List.getElem?_eq_some_iff.1 h).1]
    exact h
  · rw [List.drop_eq_nil_of_le (by omega)] at h
    simp [Enc.all] at h

theorem RdSl.sub {w : World} (h : RdSl E v l w) {lo hi : Nat} (h1 : lo ≤ hi) (h2 : hi ≤ l.length) : RdSl E (sub E.k v lo hi) ((l.drop lo).take (hi - lo)) w := by
  have hlen : ((l.drop lo).take (hi - lo)).length = hi - lo := by simp; omega
  rcases h with ⟨rfl, rfl⟩ | ⟨g, off, cap, rfl, hc, hm, hr⟩
  · simp at h2
    subst h2
    obtain rfl : lo = 0 := by omega
    left
    simp [sub_slice]
  · right
    rw [sub_slice]
    by_cases hcl : cap = lo
    · refine ⟨g, off, cap - lo, by simp [hcl, hlen], by omega, by omega, fun j u hj => ?_⟩
      have : (l.drop lo).take (hi - lo) = [] := List.eq_nil_of_length_eq_zero (by omega)
      simp [this, Enc.all] at hj
    · refine ⟨g, off + lo * E.k, cap - lo, by simp [hcl, hlen, Addr.add_lit], by omega, by omega, fun j u hj => ?_⟩
      have := hr _ _ (E.all_take_drop l lo (hi - lo) j u hj)
      rw [Nat.add_assoc]; exact this

theorem RdV.len_le (h : RdV E As v l) {w0 w : World} (H : Sat w0 w As) : l.length ≤ 9223372036854775807 := by
  rcases h.get H with ⟨_, rfl⟩ | ⟨g, off, cap, _, h1, h2, _⟩
  · simp
  · unfold maxLen at h2; omega

theorem RdV.sub (h : RdV E As v l) {lo hi : Nat} (h1 : lo ≤ hi) (h2 : hi ≤ l.length) : RdV E As (sub E.k v lo hi) ((l.drop lo).take (hi - lo)) := ⟨fun H => (h.get H).sub h1 h2⟩

/-- A cut of a slice that is read: within its length. -/
theorem wl_slice {t : TypeId} {x : Operand} {ol oh : Option Operand} {lo hi : Nat} (E : Enc α) (H : Sat w0 w As) (hop : o.op = .slice t x ol oh none) (hgd : Region.wanted o (yielded ops a.tmps) = true)
    (hx : a.eval x = v) (ht : SliceTy P t e) (he : ElemTy P e E.k) (hr : RdV E As v l)
    (hl : (ol = none ∧ lo = 0) ∨ ∃ y kd i, ol = some y ∧ a.eval y = .int kd i ∧ 0 ≤ i ∧ lo = i.toNat) (hh : (oh = none ∧ hi = l.length) ∨ ∃ y kd i, oh = some y ∧ a.eval y = .int kd i ∧ 0 ≤ i ∧ hi = i.toNat)
    (h1 : lo ≤ hi) (h2 : hi ≤ l.length)
    (k : RdV E As (sub E.k v lo hi) ((l.drop lo).take (hi - lo)) → wpList P ops Q rest (a.put o.dst (sub E.k v lo hi)) w) : wpList P ops Q (o :: rest) a w := by
  refine wl_of_wp hgd ?_
  have k := k (hr.sub h1 h2)
  obtain ⟨inf, z, hi', hz, hk, hby, hzc⟩ := he.info
  have main : ∀ ad n cap, v = .slice ad n cap → l.length ≤ cap → n = l.length → (Instr.sliceAt t v (ol.map a.eval) (oh.map a.eval) none).run P w = .ok (sub E.k v lo hi) w := by
    rintro ad n cap rfl hcap rfl
    have hlo2 : (lo : Int) ≤ hi := by omega
    have hhi2 : (hi : Int) ≤ cap := by omega
    rw [sub_slice]
    have hl' : (ol = none ∧ lo = 0) ∨ ∃ y kd, ol = some y ∧ a.eval y = .int kd lo := hl.imp id fun ⟨y, kd, i, h1, h2, h3, h4⟩ => ⟨y, kd, h1, h2.trans (by rw [h4, Int.toNat_of_nonneg h3])⟩
    have hh' : (oh = none ∧ hi = l.length) ∨ ∃ y kd, oh = some y ∧ a.eval y = .int kd hi := hh.imp id fun ⟨y, kd, i, h1, h2, h3, h4⟩ => ⟨y, kd, h1, h2.trans (by rw [h4, Int.toNat_of_nonneg h3])⟩
    clear hl hh
    rcases hl' with ⟨rfl, rfl⟩ | ⟨y, kd, rfl, hy⟩ <;> rcases hh' with ⟨rfl, rfl⟩ | ⟨y', kd', rfl, hy'⟩ <;>
      simp [Instr.sliceAt, Instr.slice, Instr.sliceBounds, Instr.sliceBound, asIntOf, run_underlying ht.u, sizeOf, typeInfo, hi', hk, *] <;> (intros; omega)
  have hrun : (Instr.sliceAt t v (ol.map a.eval) (oh.map a.eval) none).run P w = .ok (sub E.k v lo hi) w := by
    rcases hr.get H with ⟨rfl, rfl⟩ | ⟨g, off, cap, rfl, hc, _⟩
    · exact main _ _ _ rfl (by simp) rfl
    · exact main _ _ _ rfl hc rfl
  unfold Oper.wp execOp
  simp only [hop, hx, Sem.run_bind, Option.map_none, hrun, Result.andThen_ok, Sem.run_pure]
  exact k
end
end Go.SL

namespace Go.SL
open Go Go.RowKit
section
variable {P : Program} {l0 : List Oper} {K : Act → World → Prop} {main : List Nat} {n : Nat} {S : List Chk} {L : Array Bool} {a : Act} {w w0 : World} {i : Nat} {oi : Oper} {As : List HP}
variable {α : Type} {E : Enc α} {e : TypeId} {v : Value} {l : List α}

theorem G_len {x : Operand} {t : TypeId} (E : Enc α) (H : Sat w0 w As) (hi : l0[i]? = some oi) (hb : sideB l0 main L i = true) (hw : Region.wanted oi (yielded l0.toArray a.tmps) = true)
    (hop : oi.op = .call { callee := .builtin .len, args := #[x], argTypes := #[t] }) (hx : a.eval x = v) (ht : SliceTy P t e) (hr : RdV E As v l)
    (h : G P l0 K main n S (L.setIfInBounds i true) (a.put oi.dst (.int .i64 l.length)) w) : G P l0 K main (n + 1) S L a w := by
  refine G_pure hi hb hw (fun w => ?_) h
  obtain ⟨ad, cap, hv⟩ := (hr.get H).len
  rw [hv] at hx
  simp [execOp, hop, resolve, invoke, builtin, hx, Builtin.len_, run_underlying ht.u, goInt]

theorem G_index {t : TypeId} {x y : Operand} {kd : IntKind} {j : Int} (E : Enc α) (H : Sat w0 w As) (hi : l0[i]? = some oi) (hb : sideB l0 main L i = true) (hw : Region.wanted oi (yielded l0.toArray a.tmps) = true)
    (hop : oi.op = .indexAddr t x y) (hx : a.eval x = v) (hy : a.eval y = .int kd j) (ht : SliceTy P t e) (he : ElemTy P e E.k) (hr : RdV E As v l) (h0 : 0 ≤ j) (h1 : j < l.length)
    (h : G P l0 K main n S (L.setIfInBounds i true) (a.put oi.dst (elemPtr E.k v j.toNat)) w) : G P l0 K main (n + 1) S L a w := by
  refine G_pure hi hb hw (fun w' => ?_) h
  obtain ⟨inf, z, hi', hz, hk, hby, hzc⟩ := he.info
  rcases hr.get H with ⟨rfl, rfl⟩ | ⟨g, off, cap, rfl, _⟩
  · simp at h1; omega
  · rw [elemPtr_slice]
    simp [execOp, hop, hx, hy, Instr.indexAt, asIntOf, run_underlying ht.u, h0, h1, sizeOf, typeInfo, hi', hk]

theorem G_elem {ty : TypeId} {x : Operand} {j : Nat} {y : α} {u : Value} (E : Enc α) (H : Sat w0 w As) (hi : l0[i]? = some oi) (hb : sideB l0 main L i = true) (hw : Region.wanted oi (yielded l0.toArray a.tmps) = true)
    (hop : oi.op = .load ty x) (hx : a.eval x = elemPtr E.k v j) (h1 : OneCell P ty) (hr : RdV E As v l) (hj : l[j]? = some y) (hu : (E.enc y) = [u])
    (h : G P l0 K main n ((i, RdSl E v l) :: S) (L.setIfInBounds i true) (a.put oi.dst u) w) : G P l0 K main (n + 1) S L a w := by
  refine G_take hi hb (.inl ⟨hw, fun w hs => ?_⟩) (hr.get H) h
  rcases hs with ⟨rfl, rfl⟩ | ⟨g, off, cap, rfl, _, _, hc⟩
  · simp at hj
  · have hk : E.k = 1 := by rw [← E.len y, hu]; rfl
    have hg := E.get l j 0 y hj E.pos
    rw [hu] at hg
    have hc' := hc _ _ hg
    simp only [hk, Nat.mul_one, Nat.add_zero] at hc'
    have hl : (load ⟨g, off + j, none⟩).run P w = .ok u w := by simp [load, Sem.run, hc']
    simp only [elemPtr_slice, Addr.add_lit, hk, Nat.mul_one] at hx
    simp only [execOp, hop, hx, Instr.loadAt, Instr.sureAddr, loadVar, Sem.run_bind, Sem.run_pure, Result.andThen_ok, h1.agg, Bool.false_eq_true, if_false, hl]

theorem G_elem_agg {ty : TypeId} {x : Operand} {j m : Nat} {y : α} {us : List Value} (E : Enc α) (H : Sat w0 w As) (hi : l0[i]? = some oi) (hb : sideB l0 main L i = true) (hw : Region.wanted oi (yielded l0.toArray a.tmps) = true)
    (hop : oi.op = .load ty x) (hx : a.eval x = elemPtr E.k v j) (h1 : AggOf P ty m) (hr : RdV E As v l) (hj : l[j]? = some y) (hn : m = E.k) (hu : E.enc y = us)
    (h : G P l0 K main n ((i, RdSl E v l) :: S) (L.setIfInBounds i true) (a.put oi.dst (.agg us.toArray)) w) : G P l0 K main (n + 1) S L a w := by
  subst hu
  refine G_take hi hb (.inl ⟨hw, fun w hs => ?_⟩) (hr.get H) h
  rcases hs with ⟨rfl, rfl⟩ | ⟨g, off, cap, rfl, _, _, hc⟩
  · simp at hj
  · have hrun : (loadCells ⟨g, off + j * E.k, none⟩ (E.enc y).length).run P w = .ok (E.enc y).toArray w :=
      run_loadCells_list (P := P) w ⟨g, off + j * E.k, none⟩ (E.enc y) (fun q u hq => by
        have hjk : q < E.k := by rw [← E.len y]; exact (List.getElem?_eq_some_iff.1 hq).1
        have hg := E.get l j q y hj hjk
        rw [hq] at hg
        have := hc _ _ hg
        rw [Addr.add_lit, Nat.add_assoc]; exact this)
    rw [E.len] at hrun
    simp only [elemPtr_slice, Addr.add_lit] at hx
    simp only [execOp, hop, hx, Instr.loadAt, Instr.sureAddr, loadVar, Sem.run_bind, Sem.run_pure, Result.andThen_ok, h1.agg, if_true, h1.size, hn, hrun]

theorem chkv (hr : RdV E As v l) (H : Sat w0 w As) : RdSl E v l w := hr.get H
end
end Go.SL

namespace Go.SL
open Go Go.RowKit
section
variable {P : Program} {ops : Array Oper} {Q : Exit → Act → World → Prop} {a : Act} {w w0 : World} {rest : List Oper} {o : Oper} {As r : List HP}
variable {α : Type} {E : Enc α} {e : TypeId} {v : Value} {l : List α}

theorem putAll_size : ∀ (vs : List Value) (c : Array Value) (off : Nat), (putAll c off vs).size = c.size := by
  intro vs
  induction vs with
  | nil => intro c off; rfl
  | cons v vs ih => intro c off; rw [putAll, ih]; simp

theorem putAll_get : ∀ (vs : List Value) (c : Array Value) (off j : Nat), off + vs.length ≤ c.size → (putAll c off vs)[j]? = if off ≤ j ∧ j < off + vs.length then vs[j - off]? else c[j]? := by
  intro vs
  induction vs with
  | nil => intro c off j _; rw [putAll, if_neg (by simp)]
  | cons v vs ih =>
    intro c off j h
    simp only [List.length_cons] at h ⊢
    rw [putAll, ih _ _ _ (by simp; omega)]
    by_cases h1 : off + 1 ≤ j ∧ j < off + 1 + vs.length
    · rw [if_pos h1, if_pos (by omega), show j - off = (j - (off + 1)) + 1 by omega, List.getElem?_cons_succ]
    · rw [if_neg h1]
      by_cases h2 : j = off
      · subst h2
        rw [if_pos (by omega), Nat.sub_self, List.getElem?_cons_zero, Array.getElem?_setIfInBounds_self_of_lt (by omega)]
      · rw [if_neg (by omega), Array.getElem?_setIfInBounds_ne (by omega)]

theorem Enc.all_get {α : Type} (E : Enc α) (l : List α) (j : Nat) : (E.all l)[j]? = (l[j / E.k]?).bind fun x => (E.enc x)[j % E.k]? := by
  have hk := E.pos
  by_cases h : j / E.k < l.length
  · have := E.get l (j / E.k) (j % E.k) l[j / E.k] (List.getElem?_eq_getElem h) (Nat.mod_lt _ hk)
    rw [Nat.mul_comm, Nat.div_add_mod] at this
    rw [this, List.getElem?_eq_getElem h]; rfl
  · rw [List.getElem?_eq_none (by omega : l.length ≤ j / E.k), List.getElem?_eq_none]
    · rfl
    · rw [E.length_all]
      exact (Nat.le_div_iff_mul_le hk).1 (by omega)

theorem OwnOk.set {g cap : Nat} {cur : Array Value} (h : OwnOk E v l g l.length cap cur) {i : Nat} (y : α) (hi : i < l.length) : OwnOk E v (l.set i y) g l.length cap (putAll cur (i * E.k) (E.enc y)) := by
  have hk := E.pos
  have hsz := h.hsize
  have htk := h.htake
  have hc := h.hcap
  have h1 : (i + 1) * E.k ≤ l.length * E.k := Nat.mul_le_mul_right _ hi
  have h2 : l.length * E.k ≤ cap * E.k := Nat.mul_le_mul_right _ hc
  have h3 : (i + 1) * E.k = i * E.k + E.k := by rw [Nat.add_mul]; omega
  refine ⟨h.hv, by simp, h.hcap, h.hmax, by rw [putAll_size]; exact hsz, ?_⟩
  apply List.ext_getElem?
  intro j
  rw [List.getElem?_take, Array.getElem?_toList, putAll_get _ _ _ _ (by rw [E.len]; omega), E.len, E.all_get]
  have hold : j < l.length * E.k → cur[j]? = (l[j / E.k]?).bind fun x => (E.enc x)[j % E.k]? := fun hj => by
    rw [← E.all_get, ← htk, List.getElem?_take, if_pos hj, Array.getElem?_toList]
  by_cases hj : j < l.length * E.k
  · rw [if_pos hj]
    by_cases hji : i * E.k ≤ j ∧ j < i * E.k + E.k
    · have hd : j / E.k = i := by
        rw [Nat.div_eq_iff hk]; omega
      have hm : j % E.k = j - i * E.k := by rw [Nat.mod_eq_sub_div_mul, hd]
      rw [if_pos hji, hd, hm, List.getElem?_set_self hi]; rfl
    · rw [if_neg hji, hold hj]
      have hd : j / E.k ≠ i := by
        intro hd
        rw [Nat.div_eq_iff hk] at hd
        omega
      rw [List.getElem?_set_ne (by omega)]
  · rw [if_neg hj]
    have : l.length ≤ j / E.k := (Nat.le_div_iff_mul_le hk).2 (by omega)
    rw [List.getElem?_eq_none (by simpa using this)]; rfl

/-- An element of an owned slice is put. -/
theorem wl_set {ty : TypeId} {x z : Operand} {i : Nat} {y : α} {u : Value} (E : Enc α) (H : Sat w0 w As) (hop : o.op = .store ty x z) (hgd : Region.wanted o (yielded ops a.tmps) = true)
    (hx : a.eval x = elemPtr E.k v i) (h1 : OneCell P ty) (hs : HasO E e v As l r) (hi : i < l.length) (hz : a.eval z = u) (hy : Dec E [u] y)
    (k : ∀ w', Sat w0 w' (ownL E e v (l.set i y) :: r) → wpList P ops Q rest (a.put o.dst undef) w') : wpList P ops Q (o :: rest) a w := by
  have H1 := hs.get H
  have hu := hy.eq
  have hk : E.k = 1 := by rw [← E.len y, hu]; rfl
  rcases ownL_cases H1 with ⟨_, rfl, _⟩ | ⟨g, cap, cur, h, H2⟩
  · simp at hi
  · rw [h.hv, elemPtr_slice, Addr.add_lit, Nat.zero_add] at hx
    have hsz := h.hsize
    have hc := h.hcap
    have h1v : u.oneCell' = true := E.one y u (by rw [hu]; exact .head _)
    refine wl_store (T := e) H2 hop hgd hx h1 inferInstance (c := cur) (by rw [hsz, hk]; omega) hz ⟨h1v⟩ (fun w' H' => k w' ?_)
    have hok := h.set y hi
    rw [hu] at hok
    exact ownL_mk (l := l.set i y) (by simp only [putAll] at hok; simpa using hok) H'

/-- An element of several cells is put. -/
theorem wl_set_agg {ty : TypeId} {x z : Operand} {i n : Nat} {y : α} {u : Value} (E : Enc α) (H : Sat w0 w As) (hop : o.op = .store ty x z) (hgd : Region.wanted o (yielded ops a.tmps) = true)
    (hx : a.eval x = elemPtr E.k v i) (h1 : AggOf P ty n) (hs : HasO E e v As l r) (hn : n = E.k) (hi : i < l.length) (hz : a.eval z = u) {us : List Value} (hu1 : u.cells.toList = us) (hy : Dec E us y)
    (k : ∀ w', Sat w0 w' (ownL E e v (l.set i y) :: r) → wpList P ops Q rest (a.put o.dst undef) w') : wpList P ops Q (o :: rest) a w := by
  have H1 := hs.get H
  have hu : u.cells.toList = E.enc y := hu1.trans hy.eq.symm
  rcases ownL_cases H1 with ⟨_, rfl, _⟩ | ⟨g, cap, cur, h, H2⟩
  · simp at hi
  · rw [h.hv, elemPtr_slice, Addr.add_lit, Nat.zero_add] at hx
    have hsz := h.hsize
    have hc := h.hcap
    have h3 : (i + 1) * E.k ≤ cap * E.k := Nat.mul_le_mul_right _ (by omega)
    rw [Nat.add_mul] at h3
    refine wl_store_agg (T := e) H2 hop hgd hx h1 inferInstance (c := cur) hz hu (by rw [E.len, hn]) (by rw [hsz, hn]; omega) ⟨fun u hu => E.one y u hu⟩ (fun w' H' => k w' ?_)
    exact ownL_mk (l := l.set i y) (by simpa using h.set y hi) H'
end
end Go.SL

namespace Go.SL
open Go Go.RowKit
section
variable {w0 w : World} {As : List HP} {α : Type} {E : Enc α} {e : TypeId} {v : Value} {l : List α}
instance {k : Nat} {u : Value} {lo hi : Nat} [h : One1 u] : One1 (sub k u lo hi) := ⟨by
  have := h.one
  unfold sub
  cases u <;> first | rfl | exact this⟩

/-- A beginning of an owned slice. -/
theorem own_sub {n : Nat} (hn : n ≤ l.length) (H : Sat w0 w (ownL E e v l :: As)) : Sat w0 w (ownL E e (sub E.k v 0 n) (l.take n) :: As) := by
  rcases ownL_cases H with ⟨rfl, rfl, H2⟩ | ⟨g, cap, cur, h, H⟩
  · obtain rfl : n = 0 := by simpa using hn
    rw [sub_slice]
    simpa using ownL_nil H2
  · have hl : (l.take n).length = n := by simp; omega
    refine ownL_mk (g := g) (cap := cap) (cur := cur) ?_ H
    have hc := h.hcap
    refine ⟨by rw [h.hv, sub_slice, hl]; simp [Addr.add_lit], rfl, by omega, h.hmax, h.hsize, ?_⟩
    rw [hl]
    have ht := h.htake
    have e1 : cur.toList.take (n * E.k) = (E.all l).take (n * E.k) := by
      rw [← ht, List.take_take, Nat.min_eq_left (Nat.mul_le_mul_right _ hn)]
    rw [e1]
    have e2 : E.all l = E.all (l.take n) ++ E.all (l.drop n) := by rw [← E.all_append, List.take_append_drop]
    rw [e2]
    have e3 : n * E.k = (E.all (l.take n)).length := by rw [E.length_all, hl]
    rw [e3, List.take_left]
end
end Go.SL
