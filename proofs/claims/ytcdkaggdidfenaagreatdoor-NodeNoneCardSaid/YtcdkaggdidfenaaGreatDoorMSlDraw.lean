/- A part of the proof: contracts of functions of the given program, and the laws on memory that they lean on. -/
import Derived.Test.YtcdkaggdidfenaaGreatDoorMSlOps
import Derived.OrdersHeld
set_option linter.all false
namespace Go.SL
open Go Go.RowKit

/-! ### A region whose order is open, walked in one order: what only reads may be taken as soon as it may come up; behind each other operation it is looked at anew. -/

abbrev Chk := Nat × (World → Prop)

def waits (ops : Array Oper) (k i : Nat) : Bool := ((Region.before ops).getD k 0).testBit i

def alive (ops : Array Oper) (main : List Nat) (L : Array Bool) (i : Nat) : Bool := main.all fun k => !(L.getD k false) || !(waits ops k i)

def Closed (ops : Array Oper) (L : Array Bool) : Prop := ∀ k o, ops[k]? = some o → L.getD k false = true → ∀ e ∈ o.after, Region.binds .any e = true → L.getD e.on false = true

def closedB (ops : Array Oper) (L : Array Bool) : Bool :=
  (List.range ops.size).all fun k => !(L.getD k false) || ((ops[k]?).map fun o => o.after.all fun e => !(Region.binds .any e) || L.getD e.on false).getD true

theorem closed_of_B {ops : Array Oper} {L : Array Bool} (h : closedB ops L = true) : Closed ops L := by
  intro k o ho hk e he hb
  have hlt : k < ops.size := (Array.getElem?_eq_some_iff.1 ho).1
  have h1 := List.all_eq_true.1 h k (List.mem_range.2 hlt)
  rw [ho, hk] at h1
  simp only [Bool.not_true, Bool.false_or, Option.map_some, Option.getD_some] at h1
  have h2 := Array.all_eq_true_iff_forall_mem.1 h1 e he
  simpa [hb] using h2

theorem before_closed (ops : Array Oper) (L : Array Bool) (hL : Closed ops L) : ∀ k, L.getD k false = true → ∀ i, waits ops k i = true → L.getD i false = true := by
  -- the fold's invariant
  have key : ∀ (l : List Oper) (acc : Array Nat), (∀ j o, l[j]? = some o → ops[acc.size + j]? = some o) →
      (∀ k, k < acc.size → L.getD k false = true → ∀ i, (acc.getD k 0).testBit i = true → L.getD i false = true) →
      ∀ k, L.getD k false = true → ∀ i, ((l.foldl (fun acc o => acc.push (o.after.foldl (fun s e => if Region.binds .any e then s ||| 2 ^ e.on ||| acc.getD e.on 0 else s) 0)) acc).getD k 0).testBit i = true → L.getD i false = true := by
    intro l
    induction l with
    | nil =>
      intro acc _ hacc k hk i hi
      by_cases hlt : k < acc.size
      · exact hacc k hlt hk i hi
      · simp [Array.getElem?_eq_none (Nat.le_of_not_lt hlt)] at hi
    | cons o l ih =>
      intro acc hops hacc
      refine ih _ (fun j o' ho' => ?_) (fun k hk hLk i hi => ?_)
      · have := hops (j + 1) o' (by simpa using ho')
        simpa [Nat.add_assoc, Nat.add_comm 1 j] using this
      · rw [Array.size_push] at hk
        by_cases hlt : k < acc.size
        · refine hacc k hlt hLk i ?_
          simpa [Array.getElem?_push, Nat.ne_of_lt hlt] using hi
        · have hke : k = acc.size := by omega
          subst hke
          have ho : ops[acc.size]? = some o := by simpa using hops 0 o (by simp)
          have hcl := hL _ o ho hLk
          have e1 : ∀ X : Nat, (acc.push X).getD acc.size 0 = X := fun X => by simp
          rw [e1] at hi
          -- the inner fold
          have inner : ∀ (es : List Edge) (s : Nat), (∀ e ∈ es, Region.binds .any e = true → L.getD e.on false = true) → (∀ i, s.testBit i = true → L.getD i false = true) →
              ∀ i, (es.foldl (fun s e => if Region.binds .any e then s ||| 2 ^ e.on ||| acc.getD e.on 0 else s) s).testBit i = true → L.getD i false = true := by
            intro es
            induction es with
            | nil => exact fun s _ hs i hi => hs i hi
            | cons e es ihe =>
              intro s hes hs i hi
              refine ihe _ (fun e' he' => hes e' (List.mem_cons_of_mem _ he')) (fun i hi => ?_) i hi
              dsimp only at hi
              by_cases hb : Region.binds .any e = true
              · rw [if_pos hb, Nat.testBit_or, Nat.testBit_or, Bool.or_eq_true, Bool.or_eq_true] at hi
                have hon := hes e (List.mem_cons_self ..) hb
                rcases hi with (hi | hi) | hi
                · exact hs i hi
                · rw [Nat.testBit_two_pow] at hi
                  have : e.on = i := by simpa using hi
                  exact this ▸ hon
                · by_cases hle : e.on < acc.size
                  · exact hacc e.on hle hon i hi
                  · simp [Array.getElem?_eq_none (Nat.le_of_not_lt hle)] at hi
              · rw [if_neg hb] at hi; exact hs i hi
          rw [← Array.foldl_toList] at hi
          exact inner o.after.toList 0 (fun e he hb => hcl e (by simpa using he) hb) (fun i hi => by simp at hi) i hi
  intro k hk i hi
  unfold waits Region.before at hi
  rw [← Array.foldl_toList] at hi
  exact key ops.toList #[] (fun j o ho => by simpa using ho) (fun k hk => by simp at hk) k hk i hi

section
variable {P : Program} {ops : Array Oper} {Q : Exit → Act → World → Prop} {main : List Nat}

def wpAnyC (P : Program) (ops : Array Oper) (Q : Exit → Act → World → Prop) (main : List Nat) : Nat → List Chk → Array Bool → Act → World → Prop
  | 0, _, L, a, w => Region.ready .any ops L = [] ∧ Q .normal a w
  | n + 1, S, L, a, w =>
    (Region.ready .any ops L = [] → Q .normal a w) ∧
    ∀ j ∈ Region.ready .any ops L, wpOp P ops Q j (fun a' w' => (∀ c ∈ S, alive ops main (L.setIfInBounds j true) c.1 = true → c.2 w') ∧ wpAnyC P ops Q main n S (L.setIfInBounds j true) a' w') a w

theorem wpAny_of_C : ∀ (n : Nat) (S : List Chk) (L : Array Bool) (a : Act) (w : World), wpAnyC P ops Q main n S L a w → wpAny P .any ops Q n L a w
  | 0, _, _, _, _, h => h
  | n + 1, S, _, _, _, h => ⟨h.1, fun i hi => wpOp_mono (fun a' w' h' => wpAny_of_C n S _ a' w' h'.2) (h.2 i hi)⟩

theorem wpAnyC_weaken {S S' : List Chk} (hS : ∀ c ∈ S, c ∈ S') : ∀ (n : Nat) (L : Array Bool) (a : Act) (w : World), wpAnyC P ops Q main n S' L a w → wpAnyC P ops Q main n S L a w
  | 0, _, _, _, h => h
  | n + 1, _, _, _, h => ⟨h.1, fun i hi => wpOp_mono (fun a' w' h' => ⟨fun c hc ha => h'.1 c (hS c hc) ha, wpAnyC_weaken hS n _ a' w' h'.2⟩) (h.2 i hi)⟩

theorem alive_set {L : Array Bool} {i k : Nat} (hm : main.contains i = false) : alive ops main (L.setIfInBounds i true) k = alive ops main L k := by
  unfold alive
  rw [Bool.eq_iff_iff, List.all_eq_true, List.all_eq_true]
  have : ∀ x ∈ main, (L.setIfInBounds i true).getD x false = L.getD x false := fun x hx => by
    refine getD_set_ne false ?_
    rintro rfl
    simp at hm
    exact hm hx
  constructor <;> intro h x hx <;> have := h x hx <;> simp_all

theorem closed_set {L : Array Bool} {j : Nat} (hL : Closed ops L) (hj : j ∈ Region.ready .any ops L) : Closed ops (L.setIfInBounds j true) := by
  intro k o ho hk e he hb
  by_cases hjk : j = k
  · subst hjk
    obtain ⟨_, o', ho', hall⟩ := mem_ready.1 hj
    rw [ho] at ho'
    obtain rfl := Option.some.inj ho'
    exact getD_set_true (hall e he hb)
  · rw [getD_set_ne false hjk] at hk
    exact getD_set_true (hL k o ho hk e he hb)

theorem wpAnyC_first {i : Nat} {oi : Oper} {v : Value} {s : World → Prop} (hi : ops[i]? = some oi) (hsel : ∀ (j : Nat) (o : Oper) cs b, ops[j]? = some o → o.op ≠ .select cs b)
    (hQ : ∀ c a w, Q (.panic c) (a.put oi.dst v) w → Q (.panic c) a w) (hm : main.contains i = false) {S : List Chk} :
    ∀ (n : Nat) (L : Array Bool) (a : Act) (w : World),
      (∀ j oj, ops[j]? = some oj → j ≠ i → L.getD j true = false → (∀ e ∈ oj.after, Region.binds .any e = true → e.on ≠ i) → oi.apart ops oj = true) →
      i ∈ Region.ready .any ops L → Closed ops L → YieldsIf P ops s oi v a → s w → (∀ c ∈ S, alive ops main L c.1 = true → c.2 w) →
      wpAnyC P ops Q main n ((i, s) :: S) (L.setIfInBounds i true) (a.put oi.dst v) w → wpAnyC P ops Q main (n + 1) S L a w := by
  intro n
  induction n with
  | zero =>
    intro L a w _ hr hcl hy hs hS H
    refine ⟨fun h => (by rw [h] at hr; cases hr), fun j hj => ?_⟩
    by_cases hji : j = i
    · subst hji
      exact hy.wpOp hi hs ⟨fun c hc ha => hS c hc (by rwa [alive_set hm] at ha), H⟩
    · have := ready_mono hj hji
      rw [H.1] at this
      cases this
  | succ n ih =>
    intro L a w hfree hr hcl hy hs hS H
    refine ⟨fun h => (by rw [h] at hr; cases hr), fun j hj => ?_⟩
    by_cases hji : j = i
    · subst hji
      exact hy.wpOp hi hs ⟨fun c hc ha => hS c hc (by rwa [alive_set hm] at ha), wpAnyC_weaken (fun c hc => List.mem_cons_of_mem _ hc) _ _ _ _ H⟩
    · have h1 := H.2 j (ready_mono hj hji)
      have hun := (mem_ready.1 hr).1
      have hunf : ∀ {L' : Array Bool}, L'.getD i true = false → L'.getD i false = false := fun {L'} h => by
        rcases Nat.lt_or_ge i L'.size with h' | h'
        · simp [h'] at h ⊢; exact h
        · simp [Array.getElem?_eq_none h'] at h
      obtain ⟨hjun, oj, hoj, hall⟩ := mem_ready.1 hj
      have hnot : ∀ e ∈ oj.after, Region.binds .any e = true → e.on ≠ i := fun e he hb heq => by
        have h1 := hall e he hb
        rw [heq, hunf hun] at h1
        cases h1
      have h2 := wpOp_putIf hoj (hfree j oj hoj hji hjun hnot) (fun cs b => hsel i oi cs b hi) (fun cs b => hsel j oj cs b hoj) hQ hy h1
      have hcl' : Closed ops (L.setIfInBounds j true) := closed_set hcl hj
      have hun' : (L.setIfInBounds j true).getD i true = false := by rw [getD_set_ne true hji]; exact hun
      have hal : alive ops main ((L.setIfInBounds i true).setIfInBounds j true) i = true := by
        unfold alive
        rw [List.all_eq_true]
        intro k hk
        by_cases hlk : ((L.setIfInBounds i true).setIfInBounds j true).getD k false = true
        · have hki : k ≠ i := by rintro rfl; simp at hm; exact hm hk
          have hlk' : (L.setIfInBounds j true).getD k false = true := by
            by_cases hkj : k = j
            · subst hkj
              rw [Array.setIfInBounds_comm _ _ (Ne.symm hji)] at hlk
              rw [getD_set_ne false (Ne.symm hki)] at hlk
              exact hlk
            · rw [getD_set_ne false (Ne.symm hkj)] at hlk ⊢
              rw [getD_set_ne false (Ne.symm hki)] at hlk
              exact hlk
          have : waits ops k i = false := by
            cases hw : waits ops k i with
            | false => rfl
            | true =>
              have := before_closed ops _ hcl' k hlk' i hw
              rw [hunf hun'] at this
              cases this
          simp [this]
        · simp [hlk]
      have hfree' : ∀ k ok, ops[k]? = some ok → k ≠ i → (L.setIfInBounds j true).getD k true = false →
          (∀ e ∈ ok.after, Region.binds .any e = true → e.on ≠ i) → oi.apart ops ok = true := fun k ok hk hki hun hno => by
        refine hfree k ok hk hki ?_ hno
        by_cases hjk : j = k
        · subst hjk; exact hjun
        · rw [getD_set_ne true hjk] at hun; exact hun
      refine wpOp_mono (fun a' w' h3 => ?_) h2
      obtain ⟨hy', hch, H'⟩ := h3
      have hal2 : ∀ k, alive ops main ((L.setIfInBounds i true).setIfInBounds j true) k = alive ops main (L.setIfInBounds j true) k := fun k => by
        rw [Array.setIfInBounds_comm _ _ (Ne.symm hji), alive_set hm]
      have hS' : ∀ c ∈ S, alive ops main (L.setIfInBounds j true) c.1 = true → c.2 w' := fun c hc ha => hch c (List.mem_cons_of_mem _ hc) (by rw [hal2]; exact ha)
      refine ⟨hS', ih _ a' w' hfree' (ready_mono hr (Ne.symm hji)) hcl' hy' (hch (i, s) (List.mem_cons_self ..) hal) hS' ?_⟩
      rw [Array.setIfInBounds_comm _ _ hji]
      exact H'

end
end Go.SL

namespace Go.SL
open Go Go.RowKit

/-- Only the plain end. -/
def postM (K : Act → World → Prop) : Exit → Act → World → Prop
  | .normal, a, w => K a w
  | _, _, _ => False

theorem postM_intro {K : Act → World → Prop} {a : Act} {w : World} (h : K a w) : postM K .normal a w := h

def AllS : List Chk → World → Prop
  | [], _ => True
  | c :: S, w => c.2 w ∧ AllS S w

theorem AllS.mem {S : List Chk} {w : World} (h : AllS S w) : ∀ c ∈ S, c.2 w := by
  induction S with
  | nil => intro c hc; cases hc
  | cons x S ih =>
    intro c hc
    rcases List.mem_cons.1 hc with rfl | hc
    · exact h.1
    · exact ih h.2 c hc

section
variable {P : Program} {l : List Oper} {Q : Exit → Act → World → Prop} {main : List Nat} {n : Nat} {S S' : List Chk} {L : Array Bool} {a : Act} {w w0 : World} {i : Nat} {oi : Oper} {v : Value} {As : List HP}

theorem alive_anti {ops : Array Oper} {j k : Nat} (h : alive ops main (L.setIfInBounds j true) k = true) : alive ops main L k = true := by
  unfold alive at *
  rw [List.all_eq_true] at *
  intro x hx
  have := h x hx
  cases hL : L.getD x false with
  | false => simp
  | true => rw [getD_set_true hL] at this; simpa using this

theorem wpAnyC_dead {ops : Array Oper} : ∀ (n : Nat) (S S' : List Chk) (L : Array Bool) (a : Act) (w : World), (∀ c ∈ S, c ∈ S' ∨ alive ops main L c.1 = false) →
    wpAnyC P ops Q main n S' L a w → wpAnyC P ops Q main n S L a w
  | 0, _, _, _, _, _, _, h => h
  | n + 1, S, S', L, _, _, hS, h => ⟨h.1, fun j hj => wpOp_mono (fun a' w' h' => by
      have key : ∀ c ∈ S, c ∈ S' ∨ alive ops main (L.setIfInBounds j true) c.1 = false := fun c hc => (hS c hc).imp id fun hd => by
        cases hh : alive ops main (L.setIfInBounds j true) c.1 with
        | false => rfl
        | true => rw [alive_anti hh] at hd; cases hd
      refine ⟨fun c hc ha => ?_, wpAnyC_dead n S S' _ a' w' key h'.2⟩
      rcases key c hc with hm | hd
      · exact h'.1 c hm ha
      · rw [ha] at hd; cases hd) (h.2 j hj)⟩

/-- A region from here on: whatever order is picked. -/
def G (P : Program) (l : List Oper) (K : Act → World → Prop) (main : List Nat) (n : Nat) (S : List Chk) (L : Array Bool) (a : Act) (w : World) : Prop :=
  AllS S w → wpAnyC P l.toArray (postM K) main n S L a w

theorem wp_draw {id : Nat} (main : List Nat) (hm : P.follows .mixedOrders = true) (h : G P l (Q .normal) main l.length [] (Array.replicate l.length false) a w.drew) :
    (Code.region id l.toArray true).wp P Q a w := by
  have h1 := wp_region_any (Q := postM (Q .normal)) (id := id) hm (wpAny_of_C (main := main) (P := P) (ops := l.toArray) _ _ _ a { w with drawn := w.drawn + 1 } (by simpa using h trivial))
  refine wp_mono h1 fun e a w he => ?_
  cases e <;> first | exact he | exact he.elim

def sideB (l : List Oper) (main : List Nat) (L : Array Bool) (i : Nat) : Bool :=
  Region.noSelect l.toArray && Region.free .any l.toArray L i && (Region.ready .any l.toArray L).contains i && closedB l.toArray L && !main.contains i

theorem G_take {K : Act → World → Prop} {s : World → Prop} (hi : l[i]? = some oi) (hb : sideB l main L i = true) (hy : YieldsIf P l.toArray s oi v a) (hs : s w)
    (h : G P l K main n ((i, s) :: S) (L.setIfInBounds i true) (a.put oi.dst v) w) : G P l K main (n + 1) S L a w := by
  intro hS
  simp only [sideB, Bool.and_eq_true, Bool.not_eq_true'] at hb
  obtain ⟨⟨⟨⟨h1, h2⟩, h3⟩, h4⟩, h5⟩ := hb
  have hi' : l.toArray[i]? = some oi := by simpa using hi
  exact wpAnyC_first hi' (Region.noSelect_spec h1) (fun _ _ _ h => h) h5 n L a w (Region.free_spec hi' h2) (by simpa using h3) (closed_of_B h4) hy hs (fun c hc _ => hS.mem c hc) (h ⟨hs, hS⟩)

theorem G_skipS {K : Act → World → Prop} (hi : l[i]? = some oi) (hb : sideB l main L i = true) {s : World → Prop} (hs : ∀ w, s w) (hy : YieldsIf P l.toArray s oi v a)
    (h : G P l K main n S (L.setIfInBounds i true) (a.put oi.dst v) w) : G P l K main (n + 1) S L a w := by
  refine G_take hi hb hy (hs w) (fun hS => ?_)
  have key : ∀ (n : Nat) (L : Array Bool) (a : Act) (w : World), wpAnyC P l.toArray (postM K) main n S L a w → wpAnyC P l.toArray (postM K) main n ((i, s) :: S) L a w := by
    intro n
    induction n with
    | zero => exact fun _ _ _ h => h
    | succ n ih =>
      refine fun L a w h => ⟨h.1, fun j hj => wpOp_mono (fun a' w' h' => ⟨fun c hc ha => ?_, ih _ a' w' h'.2⟩) (h.2 j hj)⟩
      rcases List.mem_cons.1 hc with rfl | hc
      · exact hs w'
      · exact h'.1 c hc ha
  exact key _ _ _ _ (h hS.2)

/-- What hangs on no world. -/
theorem G_pure {K : Act → World → Prop} (hi : l[i]? = some oi) (hb : sideB l main L i = true) (hw : Region.wanted oi (yielded l.toArray a.tmps) = true)
    (hv : ∀ w, (execOp a.eval oi).run P w = .ok (.value v) w)
    (h : G P l K main n S (L.setIfInBounds i true) (a.put oi.dst v) w) : G P l K main (n + 1) S L a w :=
  G_skipS (s := fun _ => True) hi hb (fun _ => trivial) (.inl ⟨hw, fun w _ => hv w⟩) h

/-- What its guard passes over. -/
theorem G_pass {K : Act → World → Prop} (hi : l[i]? = some oi) (hb : sideB l main L i = true) (hw : Region.wanted oi (yielded l.toArray a.tmps) = false)
    (h : G P l K main n S (L.setIfInBounds i true) (a.put oi.dst undef) w) : G P l K main (n + 1) S L a w :=
  G_skipS (s := fun _ => True) hi hb (fun _ => trivial) (.inr ⟨hw, rfl⟩) h

/-- A load of one cell. -/
theorem G_load {K : Act → World → Prop} {ty : TypeId} {x : Operand} {b off : Nat} {c : Array Value} {T : TypeId} {fr : Nat × Nat} (H : Sat w0 w As) (hi : l[i]? = some oi) (hb : sideB l main L i = true)
    (hw : Region.wanted oi (yielded l.toArray a.tmps) = true) (hop : oi.op = .load ty x) (hx : a.eval x = .pointer (some ⟨b, off, none⟩)) (h1 : OneCell P ty) (hr : Rd b As (.cells c T fr)) (hv : c.toList[off]? = some v)
    (h : G P l K main n ((i, fun w => w.cell? ⟨b, off, none⟩ = some v) :: S) (L.setIfInBounds i true) (a.put oi.dst v) w) : G P l K main (n + 1) S L a w := by
  refine G_take hi hb (.inl ⟨hw, fun w hc => ?_⟩) ((cell_of_heap (hr.get H)).trans (by rw [← Array.getElem?_toList]; exact hv)) h
  have hl : (load ⟨b, off, none⟩).run P w = .ok v w := by simp [load, Sem.run, hc]
  simp only [execOp, hop, hx, Instr.loadAt, Instr.sureAddr, loadVar, Sem.run_bind, Sem.run_pure, Result.andThen_ok, h1.agg, Bool.false_eq_true, if_false, hl]

/-- A load of several cells. -/
theorem G_load_agg {K : Act → World → Prop} {ty : TypeId} {x : Operand} {b off : Nat} {c : Array Value} {T : TypeId} {fr : Nat × Nat} {m : Nat} (H : Sat w0 w As) (hi : l[i]? = some oi) (hb : sideB l main L i = true)
    (hw : Region.wanted oi (yielded l.toArray a.tmps) = true) (hop : oi.op = .load ty x) (hx : a.eval x = .pointer (some ⟨b, off, none⟩)) (h1 : AggOf P ty m) (hr : Rd b As (.cells c T fr)) (hl : off + m ≤ c.size)
    (h : G P l K main n ((i, fun w => ∀ j v, (cut c off m)[j]? = some v → w.cell? ⟨b, off + j, none⟩ = some v) :: S) (L.setIfInBounds i true) (a.put oi.dst (.agg (cut c off m).toArray)) w) : G P l K main (n + 1) S L a w := by
  refine G_take hi hb (.inl ⟨hw, fun w hc => ?_⟩) (fun j v hj => (cell_of_heap (hr.get H)).trans (cut_get hj)) h
  have hrun : (loadCells ⟨b, off, none⟩ (cut c off m).length).run P w = .ok (cut c off m).toArray w :=
    run_loadCells_list (P := P) w ⟨b, off, none⟩ (cut c off m) (fun j v hj => by rw [Addr.add_lit]; exact hc j v hj)
  rw [cut_len hl] at hrun
  simp only [execOp, hop, hx, Instr.loadAt, Instr.sureAddr, loadVar, Sem.run_bind, Sem.run_pure, Result.andThen_ok, h1.agg, if_true, h1.size, hrun]

theorem chk1 {b off : Nat} {c : Array Value} {T : TypeId} {fr : Nat × Nat} (hr : Rd b As (.cells c T fr)) (H : Sat w0 w As) (hv : c.toList[off]? = some v) : w.cell? ⟨b, off, none⟩ = some v := (cell_of_heap (hr.get H)).trans (by rw [← Array.getElem?_toList]; exact hv)
theorem chkn {b off m : Nat} {c d : Array Value} {T : TypeId} {fr : Nat × Nat} (hr : Rd b As (.cells c T fr)) (H : Sat w0 w As) (hv : cut c off m = cut d off m) : ∀ j v, (cut d off m)[j]? = some v → w.cell? ⟨b, off + j, none⟩ = some v :=
  fun j v hj => (cell_of_heap (hr.get H)).trans (cut_get (hv ▸ hj))

theorem wpOp_of_list {ops : Array Oper} {K : Act → World → Prop} {Q : Exit → Act → World → Prop} (hi : ops[i]? = some oi) (h : wpList P ops (postM K) [oi] a w) : wpOp P ops Q i K a w := by
  unfold Go.wpOp
  simp only [hi]
  unfold wpList at h
  split
  · rename_i hw
    simp only [hw, if_true] at h
    rcases h with h | ⟨_, a, w, hf⟩
    · refine .inl ?_
      unfold Oper.wp at *
      generalize (execOp a.eval oi).run P w = r at *
      cases r with
      | ok n w' =>
        cases n <;> simp only [Oper.upon] at h ⊢ <;>
          first
            | exact h
            | exact Calls.mono h (fun e w'' he => by cases e <;> first | exact he | exact he.elim | (obtain ⟨_, _, hf⟩ := he; exact hf.elim))
            | exact Rows.mono h (fun _ _ he => he)
      | halt x w' => cases x <;> simp only [Oper.upon] at h ⊢ <;> exact h.elim
    · exact hf.elim
  · rename_i hw
    simp only [hw] at h
    exact h

/-- What writes, or calls. -/
def pickB {α : Type _} : List Bool → List α → List α
  | true :: bs, x :: xs => x :: pickB bs xs
  | false :: bs, _ :: xs => pickB bs xs
  | _, _ => []
theorem pickB_filter {β : Type _} (f : Nat → Bool) : ∀ (S : List (Nat × β)) (is : List Nat) (bs : List Bool), S.map (·.1) = is → is.map f = bs → S.filter (fun c => f c.1) = pickB bs S := by
  intro S
  induction S with
  | nil => rintro _ _ rfl rfl; rfl
  | cons c S ih =>
    rintro _ _ rfl rfl
    simp only [List.map_cons]
    cases h : f c.1
    · rw [List.filter_cons_of_neg (by simp [h]), pickB]; exact ih _ _ rfl rfl
    · rw [List.filter_cons_of_pos (by simpa using h), pickB]; congr 1; exact ih _ _ rfl rfl

theorem G_main {K : Act → World → Prop} (hi : l[i]? = some oi) (hr : Region.ready .any l.toArray L = [i]) {is : List Nat} {bs : List Bool} (his : S.map (·.1) = is) (hbs : is.map (alive l.toArray main (L.setIfInBounds i true)) = bs) (hS' : pickB bs S = S')
    (h : wpList P l.toArray (postM fun a' w' => AllS S' w' ∧ G P l K main n S' (L.setIfInBounds i true) a' w') [oi] a w) : G P l K main (n + 1) S L a w := by
  intro _
  have hi' : l.toArray[i]? = some oi := by simpa using hi
  refine ⟨fun h0 => (by rw [hr] at h0; cases h0), fun j hj => ?_⟩
  rw [hr] at hj
  obtain rfl : j = i := by simpa using hj
  refine wpOp_mono (fun a' w' h' => ?_) (wpOp_of_list hi' h)
  have hS := (pickB_filter _ S is bs his hbs).trans hS'
  subst hS
  refine ⟨fun c hc ha => h'.1.mem c (List.mem_filter.2 ⟨hc, ha⟩), wpAnyC_dead _ _ _ _ _ _ (fun c hc => ?_) (h'.2 h'.1)⟩
  cases ha : alive l.toArray main (L.setIfInBounds j true) c.1 with
  | true => exact .inl (List.mem_filter.2 ⟨hc, ha⟩)
  | false => exact .inr rfl

theorem G_done {K : Act → World → Prop} (hr : Region.ready .any l.toArray L = []) (h : K a w) : G P l K main n S L a w := by
  intro _
  cases n with
  | zero => exact ⟨hr, h⟩
  | succ n => exact ⟨fun _ => h, by rw [hr]; simp⟩

end
end Go.SL
