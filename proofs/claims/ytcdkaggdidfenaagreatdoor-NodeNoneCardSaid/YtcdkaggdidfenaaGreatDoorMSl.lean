/- A part of the proof: contracts of functions of the given program, and the laws on memory that they lean on. -/
import Derived.WalkKit
import Derived.KernelRfl
import Derived.Deep.RegionHeld3
set_option linter.all false
namespace Go.SL
open Go Go.RowKit

/-- Assertions on memory: an owned block, a block that never turns, a plain fact, both apart, some. -/
inductive HP : Type 1
  | pt (b : Nat) (o : Obj)
  | ro (b : Nat) (o : Obj)
  | prop (p : Prop)
  | imm (w1 : World)
  | sep (x y : HP)
  | ex {α : Type} (f : α → HP)

def HP.sat (w : World) (I : Nat → Prop) : HP → (Nat → Prop) → Prop
  | .pt b o, S => w.heap[b]? = some o ∧ S b
  | .ro b o, _ => w.heap[b]? = some o ∧ I b
  | .prop p, _ => p
  | .imm w1, _ => ∀ b, b < w1.heap.size → w.heap[b]? = w1.heap[b]? ∧ I b
  | .sep x y, S => ∃ S1 S2 : Nat → Prop, (∀ b, S1 b → S2 b → False) ∧ (∀ b, S1 b → S b) ∧ (∀ b, S2 b → S b) ∧ x.sat w I S1 ∧ y.sat w I S2
  | .ex f, S => ∃ x, (f x).sat w I S

def satL (w : World) (I : Nat → Prop) : List HP → (Nat → Prop) → Prop
  | [], _ => True
  | A :: As, S => ∃ S1 S2 : Nat → Prop, (∀ b, S1 b → S2 b → False) ∧ (∀ b, S1 b → S b) ∧ (∀ b, S2 b → S b) ∧ A.sat w I S1 ∧ satL w I As S2

theorem HP.sat_mono {w w' : World} {I I' : Nat → Prop} (hI : ∀ b, I b → I' b) : ∀ (x : HP) {S S' : Nat → Prop},
    (∀ b, S b → S' b) → (∀ b, S b ∨ I b → w'.heap[b]? = w.heap[b]?) → x.sat w I S → x.sat w' I' S'
  | .pt b o, S, S', hS, hw, h => ⟨(hw b (.inl h.2)).trans h.1, hS _ h.2⟩
  | .ro b o, S, S', hS, hw, h => ⟨(hw b (.inr h.2)).trans h.1, hI _ h.2⟩
  | .prop p, S, S', hS, hw, h => h
  | .imm w1, S, S', hS, hw, h => fun b hb => ⟨(hw b (.inr (h b hb).2)).trans (h b hb).1, hI _ (h b hb).2⟩
  | .sep x y, S, S', hS, hw, ⟨S1, S2, h1, h2, h3, h4, h5⟩ =>
    ⟨S1, S2, h1, fun b hb => hS b (h2 b hb), fun b hb => hS b (h3 b hb),
      HP.sat_mono hI x (fun _ h => h) (fun b hb => hw b (hb.imp (h2 b) id)) h4, HP.sat_mono hI y (fun _ h => h) (fun b hb => hw b (hb.imp (h3 b) id)) h5⟩
  | .ex f, S, S', hS, hw, ⟨x, h⟩ => ⟨x, HP.sat_mono hI (f x) hS hw h⟩

theorem satL_mono {w w' : World} {I I' : Nat → Prop} (hI : ∀ b, I b → I' b) : ∀ (As : List HP) {S S' : Nat → Prop},
    (∀ b, S b → S' b) → (∀ b, S b ∨ I b → w'.heap[b]? = w.heap[b]?) → satL w I As S → satL w' I' As S'
  | [], S, S', hS, hw, h => trivial
  | A :: As, S, S', hS, hw, ⟨S1, S2, h1, h2, h3, h4, h5⟩ =>
    ⟨S1, S2, h1, fun b hb => hS b (h2 b hb), fun b hb => hS b (h3 b hb),
      HP.sat_mono hI A (fun _ h => h) (fun b hb => hw b (hb.imp (h2 b) id)) h4, satL_mono hI As (fun _ h => h) (fun b hb => hw b (hb.imp (h3 b) id)) h5⟩

theorem satL_swap {w : World} {I : Nat → Prop} {A B : HP} {As : List HP} {S : Nat → Prop} (h : satL w I (A :: B :: As) S) : satL w I (B :: A :: As) S := by
  obtain ⟨S1, S2, d, s1, s2, hA, T1, T2, e, t1, t2, hB, hr⟩ := h
  refine ⟨T1, fun b => S1 b ∨ T2 b, fun b h1 h2 => h2.elim (fun h => d b h (t1 b h1)) (fun h => e b h1 h), fun b h => s2 b (t1 b h), fun b h => h.elim (s1 b) (fun h => s2 b (t2 b h)), hB,
    S1, T2, fun b h1 h2 => d b h1 (t2 b h2), fun b h => .inl h, fun b h => .inr h, hA, hr⟩

theorem satL_perm {w : World} {I : Nat → Prop} {As Bs : List HP} (p : As.Perm Bs) : ∀ {S : Nat → Prop}, satL w I As S → satL w I Bs S := by
  induction p with
  | nil => exact fun h => h
  | cons x p ih => rintro S ⟨S1, S2, d, s1, s2, hA, hr⟩; exact ⟨S1, S2, d, s1, s2, hA, ih hr⟩
  | swap x y l => exact fun h => satL_swap h
  | trans p q ihp ihq => exact fun h => ihq (ihp h)

/-- In world w, over the base world w0 (which stands in it unturned), the assertions hold, each of its own memory. -/
structure Sat (w0 w : World) (As : List HP) : Prop where
  os : w.os = w0.os
  tape : w.tape = w0.tape
  output : w.output = w0.output
  size : w0.heap.size ≤ w.heap.size
  old : ∀ b, b < w0.heap.size → w.heap[b]? = w0.heap[b]?
  own : ∃ I S : Nat → Prop, (∀ b, I b → S b → False) ∧ (∀ b, S b → w0.heap.size ≤ b) ∧ (∀ b, b < w0.heap.size → I b) ∧
    (∀ b, S b ∨ I b → b < w.heap.size) ∧ satL w I As S

section
variable {w0 w w' : World} {A B : HP} {As Bs : List HP} {b : Nat} {o o' : Obj}

theorem Sat.below (h : Sat w0 w As) : Below w0.heap.size w0 w := ⟨h.os, h.tape, h.output, h.size, h.old⟩

theorem Sat.perm (h : Sat w0 w As) (p : As.Perm Bs) : Sat w0 w Bs :=
  { h with own := let ⟨I, S, a, b, c, d, e⟩ := h.own; ⟨I, S, a, b, c, d, satL_perm p e⟩ }

theorem Sat.mapL (h : Sat w0 w As) (f : ∀ I S, (∀ b, b < w0.heap.size → I b) → satL w I As S → satL w I Bs S) : Sat w0 w Bs :=
  { h with own := let ⟨I, S, a, b, c, d, e⟩ := h.own; ⟨I, S, a, b, c, d, f I S c e⟩ }

theorem Sat.drop (h : Sat w0 w (A :: As)) : Sat w0 w As :=
  h.mapL fun _ _ _ ⟨_, _, _, _, s2, _, hr⟩ => satL_mono (fun _ h => h) As s2 (fun _ _ => rfl) hr

theorem Sat.pt (h : Sat w0 w (.pt b o :: As)) : w.heap[b]? = some o := by
  obtain ⟨I, S, _, _, _, _, S1, S2, _, _, _, hA, _⟩ := h.own
  exact hA.1

theorem Sat.ro (h : Sat w0 w (.ro b o :: As)) : w.heap[b]? = some o := by
  obtain ⟨I, S, _, _, _, _, S1, S2, _, _, _, hA, _⟩ := h.own
  exact hA.1

theorem Sat.sep_iff : Sat w0 w (.sep A B :: As) ↔ Sat w0 w (A :: B :: As) := by
  constructor
  · refine fun h => h.mapL fun I S _ ⟨S1, S2, d, s1, s2, ⟨T1, T2, e, t1, t2, hA, hB⟩, hr⟩ => ?_
    exact ⟨T1, fun b => T2 b ∨ S2 b, fun b h1 h2 => h2.elim (e b h1) (fun h => d b (t1 b h1) h), fun b h => s1 b (t1 b h), fun b h => h.elim (fun h => s1 b (t2 b h)) (s2 b), hA,
      T2, S2, fun b h1 h2 => d b (t2 b h1) h2, fun b h => .inl h, fun b h => .inr h, hB, hr⟩
  · refine fun h => h.mapL fun I S _ ⟨S1, S2, d, s1, s2, hA, T1, T2, e, t1, t2, hB, hr⟩ => ?_
    exact ⟨fun b => S1 b ∨ T1 b, T2, fun b h1 h2 => h1.elim (fun h => d b h (t2 b h2)) (fun h => e b h h2), fun b h => h.elim (s1 b) (fun h => s2 b (t1 b h)), fun b h => s2 b (t2 b h),
      ⟨S1, T1, fun b h1 h2 => d b h1 (t1 b h2), fun b h => .inl h, fun b h => .inr h, hA, hB⟩, hr⟩

theorem Sat.ex_iff {α : Type} {f : α → HP} : Sat w0 w (.ex f :: As) ↔ ∃ x, Sat w0 w (f x :: As) := by
  constructor
  · intro h
    obtain ⟨I, S, a, b, c, d, S1, S2, d', s1, s2, ⟨x, hA⟩, hr⟩ := h.own
    exact ⟨x, { h with own := ⟨I, S, a, b, c, d, S1, S2, d', s1, s2, hA, hr⟩ }⟩
  · rintro ⟨x, h⟩
    exact h.mapL fun I S _ ⟨S1, S2, d, s1, s2, hA, hr⟩ => ⟨S1, S2, d, s1, s2, ⟨x, hA⟩, hr⟩

theorem Sat.prop_iff {p : Prop} : Sat w0 w (.prop p :: As) ↔ p ∧ Sat w0 w As := by
  constructor
  · intro h
    refine ⟨?_, h.drop⟩
    obtain ⟨I, S, a, b, c, d, S1, S2, d', s1, s2, hA, hr⟩ := h.own
    exact hA
  · rintro ⟨hp, h⟩
    exact h.mapL fun I S _ hr => ⟨fun _ => False, S, fun _ h _ => h, fun _ h => h.elim, fun _ h => h, hp, hr⟩

theorem Sat.dup (h : Sat w0 w (.ro b o :: As)) : Sat w0 w (.ro b o :: .ro b o :: As) :=
  h.mapL fun I S _ hh => ⟨fun _ => False, S, fun _ h _ => h, fun _ h => h.elim, fun _ h => h, (by obtain ⟨S1, S2, _, _, _, hA, _⟩ := hh; exact hA), hh⟩

/-- A block of the base world may be named. -/
theorem Sat.base (h : Sat w0 w As) (hb : w0.heap[b]? = some o) : Sat w0 w (.ro b o :: As) := by
  have hlt : b < w0.heap.size := (Array.getElem?_eq_some_iff.1 hb).1
  exact h.mapL fun I S c hh => ⟨fun _ => False, S, fun _ h _ => h, fun _ h => h.elim, fun _ h => h, ⟨(h.old b hlt).trans hb, c b hlt⟩, hh⟩

theorem Sat.freeze (h : Sat w0 w (.pt b o :: As)) : Sat w0 w (.ro b o :: As) := by
  obtain ⟨I, S, a, b', c, d, S1, S2, d', s1, s2, hA, hr⟩ := h.own
  refine { h with own := ⟨fun x => I x ∨ x = b, S2, ?_, fun x hx => b' x (s2 x hx), fun x hx => .inl (c x hx), ?_, fun _ => False, S2, fun _ h _ => h, fun _ h => h.elim, fun _ h => h, ⟨hA.1, .inr rfl⟩, ?_⟩ }
  · rintro x (hx | rfl) hs
    · exact a x hx (s2 x hs)
    · exact d' _ hA.2 hs
  · rintro x (hx | hx | rfl)
    · exact d x (.inl (s2 x hx))
    · exact d x (.inr hx)
    · exact d _ (.inl (s1 _ hA.2))
  · exact satL_mono (fun x hx => .inl hx) As (fun _ h => h) (fun _ _ => rfl) hr

/-- An owned block turns. -/
theorem Sat.turn (h : Sat w0 w (.pt b o :: As)) (hos : w'.os = w.os) (ht : w'.tape = w.tape) (hout : w'.output = w.output) (hs : w.heap.size ≤ w'.heap.size)
    (hb : w'.heap[b]? = some o') (hne : ∀ k, k < w.heap.size → k ≠ b → w'.heap[k]? = w.heap[k]?) : Sat w0 w' (.pt b o' :: As) := by
  obtain ⟨I, S, a, b', c, d, S1, S2, d', s1, s2, hA, hr⟩ := h.own
  have hb0 : w0.heap.size ≤ b := b' b (s1 b hA.2)
  refine ⟨hos.trans h.os, ht.trans h.tape, hout.trans h.output, Nat.le_trans h.size hs, fun k hk => (hne k (by have := h.size; omega) (by omega)).trans (h.old k hk),
    I, S, a, b', c, fun x hx => Nat.lt_of_lt_of_le (d x hx) hs, S1, S2, d', s1, s2, ⟨hb, hA.2⟩, ?_⟩
  refine satL_mono (fun _ h => h) As (fun _ h => h) (fun x hx => hne x ?_ ?_) hr
  · exact d x (hx.imp (s2 x) id)
  · rintro rfl
    exact hx.elim (fun h => d' _ hA.2 h) (fun h => a _ h (s1 _ hA.2))

/-- Only new blocks: all stays. -/
theorem Sat.keep (h : Sat w0 w As) (hos : w'.os = w.os) (ht : w'.tape = w.tape) (hout : w'.output = w.output) (hs : w.heap.size ≤ w'.heap.size)
    (hne : ∀ k, k < w.heap.size → w'.heap[k]? = w.heap[k]?) : Sat w0 w' As := by
  obtain ⟨I, S, a, b', c, d, hr⟩ := h.own
  exact ⟨hos.trans h.os, ht.trans h.tape, hout.trans h.output, Nat.le_trans h.size hs, fun k hk => (hne k (by have := h.size; omega)).trans (h.old k hk),
    I, S, a, b', c, fun x hx => Nat.lt_of_lt_of_le (d x hx) hs, satL_mono (fun _ h => h) As (fun _ h => h) (fun x hx => hne x (d x hx)) hr⟩

/-- A new block is owned. -/
theorem Sat.new (h : Sat w0 w As) (hos : w'.os = w.os) (ht : w'.tape = w.tape) (hout : w'.output = w.output) (hs : w.heap.size < w'.heap.size)
    (hb : w'.heap[w.heap.size]? = some o) (hne : ∀ k, k < w.heap.size → w'.heap[k]? = w.heap[k]?) : Sat w0 w' (.pt w.heap.size o :: As) := by
  obtain ⟨I, S, a, b', c, d, hr⟩ := h.own
  refine ⟨hos.trans h.os, ht.trans h.tape, hout.trans h.output, by have := h.size; omega, fun k hk => (hne k (by have := h.size; omega)).trans (h.old k hk),
    I, fun x => x = w.heap.size ∨ S x, ?_, ?_, c, ?_, fun x => x = w.heap.size, S, ?_, fun x hx => .inl hx, fun x hx => .inr hx, ⟨hb, rfl⟩,
    satL_mono (fun _ h => h) As (fun _ h => h) (fun x hx => hne x (d x hx)) hr⟩
  · rintro x hi (rfl | hs')
    · exact absurd (d _ (.inr hi)) (Nat.lt_irrefl _)
    · exact a x hi hs'
  · rintro x (rfl | hx)
    · exact h.size
    · exact b' x hx
  · rintro x ((rfl | hx) | hx)
    · exact hs
    · exact Nat.lt_trans (d x (.inl hx)) hs
    · exact Nat.lt_trans (d x (.inr hx)) hs
  · rintro x rfl hx
    exact absurd (d _ (.inl hx)) (Nat.lt_irrefl _)

theorem Sat.start (w : World) : Sat w w [] :=
  ⟨rfl, rfl, rfl, Nat.le_refl _, fun _ _ => rfl, fun b => b < w.heap.size, fun _ => False, fun _ _ h => h, fun _ h => h.elim, fun _ h => h, fun _ h => h.elim False.elim id, trivial⟩

/-- What the base world held stays as it was. -/
theorem Sat.imm (h : Sat w0 w As) : Sat w0 w (.imm w0 :: As) :=
  h.mapL fun I S c hh => ⟨fun _ => False, S, fun _ h _ => h, fun _ h => h.elim, fun _ h => h, fun b hb => ⟨h.old b hb, c b hb⟩, hh⟩

theorem Sat.imm_block {w1 : World} (h : Sat w0 w (.imm w1 :: As)) (hb : b < w1.heap.size) : w.heap[b]? = w1.heap[b]? := by
  obtain ⟨I, S, _, _, _, _, S1, S2, _, _, _, hA, _⟩ := h.own
  exact (hA b hb).1

theorem Sat.drew (h : Sat w0 w As) : Sat w0 w.drew As := h.keep rfl rfl rfl (Nat.le_refl _) (fun _ _ => rfl)

theorem Sat.alloc (h : Sat w0 w As) (o : Obj) : Sat w0 (w.alloc o) (.pt w.heap.size o :: As) :=
  h.new rfl rfl rfl (by show _ < (w.heap.push o).size; simp) (heap_alloc_new w o) (fun k hk => Below.heap_alloc w o k hk)

theorem Sat.setCell {c : Array Value} {t : TypeId} (h : Sat w0 w (.pt b (.cells c t (0, 0)) :: As)) (i : Nat) (v : Value) :
    Sat w0 (w.setCell ⟨b, i, none⟩ v) (.pt b (.cells (c.setIfInBounds i v) t (0, 0)) :: As) :=
  h.turn rfl rfl rfl (by simp [World.setCell]) (heap_setCell_same w b i c t v h.pt) (fun k _ hne => heap_setCell_other w _ k v hne)
end

/-! ### Finding -/

class Has (A : HP) (As : List HP) (rest : outParam (List HP)) : Prop where perm : As.Perm (A :: rest)
instance (priority := 2000) Has.here {A : HP} {As : List HP} : Has A (A :: As) As := ⟨.refl _⟩
instance Has.there {A B : HP} {As r : List HP} [h : Has A As r] : Has A (B :: As) (B :: r) := ⟨(h.perm.cons B).trans (.swap A B r)⟩

/-- The owned block b. -/
class HasPt (b : Nat) (As : List HP) (o : outParam Obj) (rest : outParam (List HP)) : Prop where perm : As.Perm (.pt b o :: rest)
instance (priority := 2000) HasPt.here {b : Nat} {o : Obj} {As : List HP} : HasPt b (.pt b o :: As) o As := ⟨.refl _⟩
instance HasPt.there {b : Nat} {o : Obj} {B : HP} {As r : List HP} [h : HasPt b As o r] : HasPt b (B :: As) o (B :: r) := ⟨(h.perm.cons B).trans (.swap _ B r)⟩

/-- What block b holds, owned or not. -/
class Rd (b : Nat) (As : List HP) (o : outParam Obj) : Prop where get : ∀ {w0 w : World}, Sat w0 w As → w.heap[b]? = some o
instance (priority := 2000) Rd.here {b : Nat} {o : Obj} {As : List HP} : Rd b (.pt b o :: As) o := ⟨fun h => h.pt⟩
instance (priority := 2000) Rd.hereRo {b : Nat} {o : Obj} {As : List HP} : Rd b (.ro b o :: As) o := ⟨fun h => h.ro⟩
instance Rd.there {b : Nat} {o : Obj} {B : HP} {As : List HP} [h : Rd b As o] : Rd b (B :: As) o := ⟨fun hs => h.get hs.drop⟩

/-- An assertion with a place for what it tells: R x. -/
class HasR {α : Type} (R : α → HP) (As : List HP) (x : outParam α) (rest : outParam (List HP)) : Prop where perm : As.Perm (R x :: rest)
instance (priority := 2000) HasR.here {α : Type} {R : α → HP} {x : α} {As : List HP} : HasR R (R x :: As) x As := ⟨.refl _⟩
instance HasR.there {α : Type} {R : α → HP} {x : α} {B : HP} {As r : List HP} [h : HasR R As x r] : HasR R (B :: As) x (B :: r) := ⟨(h.perm.cons B).trans (.swap _ B r)⟩


/-- What follows by forgetting and by another order. -/
class Ent (As Bs : List HP) : Prop where conv : ∀ {w : World} {I S : Nat → Prop}, satL w I As S → satL w I Bs S
instance (priority := 2000) Ent.refl {As : List HP} : Ent As As := ⟨id⟩
instance (priority := 1900) Ent.nil {As : List HP} : Ent As [] := ⟨fun _ => trivial⟩
instance (priority := 1500) Ent.cons {As Bs r : List HP} {B : HP} [h : Has B As r] [k : Ent r Bs] : Ent As (B :: Bs) :=
  ⟨fun hh => by
    obtain ⟨S1, S2, d, s1, s2, hA, hr⟩ := satL_perm h.perm hh
    exact ⟨S1, S2, d, s1, s2, hA, k.conv hr⟩⟩
instance (priority := 1000) Ent.drop {As Bs : List HP} {A : HP} [k : Ent As Bs] : Ent (A :: As) Bs :=
  ⟨fun ⟨_, _, _, _, s2, _, hr⟩ => k.conv (satL_mono (fun _ h => h) As s2 (fun _ _ => rfl) hr)⟩
theorem Sat.ent {w0 w : World} {As Bs : List HP} [k : Ent As Bs] (H : Sat w0 w As) : Sat w0 w Bs := H.mapL fun _ _ _ h => k.conv h

theorem fin {R : Ending → World → Prop} {v v' : Value} {w : World} (h : R (.returned v') w) (e : v = v') : R (.returned v) w := e ▸ h

theorem int_eq {k : IntKind} {a b : Int} (h : a = b) : Value.int k a = Value.int k b := by rw [h]

end Go.SL
