/- A part of the proof: contracts of functions of the given program, and the laws on memory that they lean on. -/
import Derived.Test.YtcdkaggdidfenaaGreatDoorMSlBytes
set_option linter.all false
namespace Go.SL
open Go Go.RowKit

class MapTy (P : Program) (mt : TypeId) (kt et : outParam TypeId) : Prop where u : P.underlying mt = some (.map kt et)

/-- How keys lie. -/
structure KEnc (κ : Type) where
  enc : κ → Value
  same : ∀ k, Instr.sameBits 10000 (enc k) (enc k) = true

/-- Keys of that type are told apart as the plain ones are. -/
class KeyOk {κ : Type} [DecidableEq κ] (P : Program) (kt : TypeId) (K : KEnc κ) : Prop where
  check : ∀ (w : World) (empty : Bool) (k : κ), (Instr.checkKey empty 10000 kt (K.enc k)).run P w = .ok () w
  kind : (∃ q, P.underlying kt = some (.int q) ∧ ∀ k, ∃ n, K.enc k = .int .i64 n) ∨ (∃ fs, P.underlying kt = some (.struct fs) ∧ ∀ k, ∃ cs, K.enc k = .agg cs)
  eq : ∀ (w : World) (a b : κ), (Op.equal kt (K.enc a) (K.enc b)).run P w = .ok (decide (a = b)) w
  inj : ∀ a b : κ, K.enc a = K.enc b → a = b

/-- The place and the value of a key. -/
def findK {κ : Type} [DecidableEq κ] (k : κ) : List (κ × Value) → Nat → Option (Nat × Value)
  | [], _ => none
  | p :: ps, i => if k = p.1 then some (i, p.2) else findK k ps (i + 1)

section
variable {κ : Type} [DecidableEq κ] {P : Program} {kt mt et : TypeId} {K : KEnc κ} {w w0 : World} {As r : List HP}

theorem run_findAsking (h : KeyOk P kt K) (w : World) (k : κ) : ∀ (es : List MapEntry) (kv : List (κ × Value)) (i : Nat), es.map (fun e => (e.key, e.val)) = kv.map (fun p => (K.enc p.1, p.2)) →
    (Instr.findAsking kt (K.enc k) es i).run P w = .ok (findK k kv i) w := by
  intro es
  induction es with
  | nil => intro kv i he; cases kv with
    | nil => rfl
    | cons p kv => simp at he
  | cons e es ih =>
    intro kv i he
    cases kv with
    | nil => simp at he
    | cons p kv =>
      simp only [List.map_cons, List.cons.injEq, Prod.mk.injEq] at he
      obtain ⟨⟨h1, h2⟩, h3⟩ := he
      simp only [Instr.findAsking, Sem.run_bind, h1, h.eq, Result.andThen_ok, findK, h2]
      by_cases hk : k = p.1
      · simp [hk, Sem.run_pure]
      · simp only [hk, decide_false, Bool.false_eq_true, if_false]
        exact ih kv (i + 1) h3

theorem run_findKey (h : KeyOk P kt K) (w : World) (k : κ) (es : List MapEntry) (kv : List (κ × Value)) (he : es.map (fun e => (e.key, e.val)) = kv.map (fun p => (K.enc p.1, p.2))) :
    (Instr.findKey kt (K.enc k) es).run P w = .ok (findK k kv 0) w := by
  rcases h.kind with ⟨q, hu, hk⟩ | ⟨fs, hu, hk⟩
  · have main : ∀ (es : List MapEntry) (kv : List (κ × Value)) (i : Nat), es.map (fun e => (e.key, e.val)) = kv.map (fun p => (K.enc p.1, p.2)) → Instr.findNow (.int q) (K.enc k) es i = some (findK k kv i) := by
      intro es
      induction es with
      | nil => intro kv i he; cases kv with
        | nil => rfl
        | cons p kv => simp at he
      | cons e es ih =>
        intro kv i he
        cases kv with
        | nil => simp at he
        | cons p kv =>
          simp only [List.map_cons, List.cons.injEq, Prod.mk.injEq] at he
          obtain ⟨⟨h1, h2⟩, h3⟩ := he
          obtain ⟨n, hn⟩ := hk k
          obtain ⟨m, hm⟩ := hk p.1
          have ih' := ih kv (i + 1) h3
          have hiff : k = p.1 ↔ n = m := ⟨fun e => by rw [e, hm] at hn; cases hn; rfl, fun e => h.inj _ _ (by rw [hn, hm, e])⟩
          rw [hn] at ih' ⊢
          simp only [Instr.findNow, h1, hm, Instr.sameNow, if_true, findK, h2]
          by_cases hnm : n = m
          · have hb : (n == m) = true := by simp [hnm]
            rw [if_pos (hiff.2 hnm), hb]
          · have hb : (n == m) = false := by simp [hnm]
            rw [if_neg (fun e => hnm (hiff.1 e)), hb]; exact ih'
    simp only [Instr.findKey, Sem.run_bind, run_underlying hu, Result.andThen_ok, main es kv 0 he, Sem.run_pure]
  · simp only [Instr.findKey, Sem.run_bind, run_underlying hu, Result.andThen_ok]
    cases es with
    | nil => cases kv with
      | nil => rfl
      | cons p kv => simp at he
    | cons e es =>
      obtain ⟨cs, hcs⟩ := hk k
      have : Instr.findNow (.struct fs) (K.enc k) (e :: es) 0 = none := by
        rw [hcs]; simp [Instr.findNow, Instr.sameNow]
      rw [this]
      exact run_findAsking h w k _ kv 0 he

/-- Block b is a map. -/
def mapHP (K : KEnc κ) (b : Nat) (kv : List (κ × Value)) : HP := .ex fun p : Array MapEntry × Nat =>
  .sep (.prop (p.1.toList.map (fun e => (e.key, e.val)) = kv.map (fun q => (K.enc q.1, q.2)))) (.pt b (.map p.1 p.2))

theorem mapHP_iff {b : Nat} {kv : List (κ × Value)} : Sat w0 w (mapHP K b kv :: As) ↔ ∃ es ck, es.toList.map (fun e => (e.key, e.val)) = kv.map (fun q => (K.enc q.1, q.2)) ∧ Sat w0 w (.pt b (.map es ck) :: As) := by
  rw [mapHP, Sat.ex_iff]
  constructor
  · rintro ⟨⟨es, ck⟩, h⟩
    obtain ⟨h1, h2⟩ := Sat.prop_iff.1 (Sat.sep_iff.1 h)
    exact ⟨es, ck, h1, h2⟩
  · rintro ⟨es, ck, h1, h2⟩
    exact ⟨(es, ck), Sat.sep_iff.2 (Sat.prop_iff.2 ⟨h1, h2⟩)⟩

/-- What a map holds at a key. -/
def getK (k : κ) (kv : List (κ × Value)) (z : Value) : Value := match findK k kv 0 with | some (_, v) => v | none => z
/-- A map with a key's value put. -/
def putK (k : κ) (u : Value) : List (κ × Value) → List (κ × Value)
  | [] => [(k, u)]
  | p :: ps => if k = p.1 then (k, u) :: ps else p :: putK k u ps

theorem findK_put (k : κ) (u : Value) : ∀ (kv : List (κ × Value)) (i : Nat), (∀ j v, findK k kv i = some (j, v) → i ≤ j ∧ putK k u kv = kv.set (j - i) (k, u) ∧ (kv[j - i]?).map (·.1) = some k) ∧ (findK k kv i = none → putK k u kv = kv ++ [(k, u)]) := by
  intro kv
  induction kv with
  | nil => intro i; exact ⟨fun j v h => by simp [findK] at h, fun _ => rfl⟩
  | cons p kv ih =>
    intro i
    simp only [findK, putK]
    by_cases hk : k = p.1
    · simp only [hk, if_true]
      refine ⟨fun j v h => ?_, fun h => by cases h⟩
      simp only [Option.some.injEq, Prod.mk.injEq] at h
      obtain ⟨rfl, _⟩ := h
      simp
    · simp only [if_neg hk]
      refine ⟨fun j v h => ?_, fun h => by rw [(ih (i + 1)).2 h]; rfl⟩
      obtain ⟨h1, h2, h3⟩ := (ih (i + 1)).1 j v h
      refine ⟨by omega, ?_, ?_⟩
      · rw [h2, show j - i = (j - (i + 1)) + 1 by omega]; rfl
      · rw [show j - i = (j - (i + 1)) + 1 by omega]; simpa using h3

theorem run_lookup {b : Nat} {kv : List (κ × Value)} {k : κ} {z : Value} (ht : MapTy P mt kt et) (h : KeyOk P kt K) (hz : ZeroOf P et z) (H : Sat w0 w (mapHP K b kv :: As)) :
    (Instr.lookup mt (.map (some b)) (K.enc k) false).run P w = .ok (getK k kv z) w := by
  obtain ⟨es, ck, he, H⟩ := mapHP_iff.1 H
  have hg : (getObj b).run P w = .ok (.map es ck) w := by simp [getObj, Sem.run, H.pt]
  simp only [Instr.lookup, Sem.run_bind, run_underlying ht.u, Result.andThen_ok, hg, Sem.run_pure, h.check, run_findKey h w k _ kv he, getK]
  cases findK k kv 0 with
  | none => simp [Sem.run_bind, hz.run, Result.andThen, Sem.run_pure]
  | some p => simp [Sem.run_pure, Result.andThen]

theorem Sat.setObj {b : Nat} {es : Array MapEntry} {ck : Nat} {o' : Obj} (H : Sat w0 w (.pt b (.map es ck) :: As)) : (Go.setObj b o').run P w = .ok () { w with heap := w.heap.setIfInBounds b o' } ∧ Sat w0 { w with heap := w.heap.setIfInBounds b o' } (.pt b o' :: As) := by
  have hlt : b < w.heap.size := (Array.getElem?_eq_some_iff.1 H.pt).1
  refine ⟨by simp [Go.setObj, Sem.run, H.pt], H.turn rfl rfl rfl (by simp) (by simp [hlt]) (fun k _ hne => by
    show (w.heap.setIfInBounds b o')[k]? = _
    rw [Array.getElem?_setIfInBounds_ne (Ne.symm hne)])⟩

theorem run_update {b : Nat} {kv : List (κ × Value)} {k : κ} {u : Value} (ht : MapTy P mt kt et) (h : KeyOk P kt K) (H : Sat w0 w (mapHP K b kv :: As)) :
    ∃ w', (Instr.mapUpdate mt (.map (some b)) (K.enc k) u).run P w = .ok () w' ∧ Sat w0 w' (mapHP K b (putK k u kv) :: As) := by
  obtain ⟨es, ck, he, H⟩ := mapHP_iff.1 H
  have hg : (getObj b).run P w = .ok (.map es ck) w := by simp [getObj, Sem.run, H.pt]
  have hf := run_findKey h w k _ kv he
  have hput := findK_put k u kv 0
  have hlen : es.size = kv.length := by have := congrArg List.length he; simpa using this
  cases hk : findK k kv 0 with
  | none =>
    obtain ⟨h1, h2⟩ := H.setObj (P := P) (o' := .map (es.push { key := K.enc k, val := u, born := ck }) (ck + 1))
    refine ⟨_, ?_, mapHP_iff.2 ⟨_, _, ?_, h2⟩⟩
    · rw [hk] at hf
      simp only [Instr.mapUpdate, Sem.run_bind, run_underlying ht.u, Result.andThen_ok, hg, h.check, hf, h1]
    · rw [hput.2 hk]; simp [he]
  | some p =>
    obtain ⟨i, v⟩ := p
    rw [hk] at hf
    obtain ⟨_, h2, h3⟩ := hput.1 i v hk
    rw [Nat.sub_zero] at h2 h3
    have hi : i < kv.length := by
      by_cases hi : i < kv.length
      · exact hi
      · rw [List.getElem?_eq_none (by omega)] at h3; cases h3
    have hie : i < es.size := by omega
    have hkey : es[i].key = K.enc k := by
      have := congrArg (fun l => (l[i]?).map (·.1)) he
      simp [hie, hi] at this
      rw [List.getElem?_eq_getElem hi] at h3
      simp at h3
      rw [this, h3]
    obtain ⟨g1, g2⟩ := H.setObj (P := P) (o' := .map (es.modify i fun e => { e with key := K.enc k, val := u }) ck)
    refine ⟨_, ?_, mapHP_iff.2 ⟨_, _, ?_, g2⟩⟩
    · have hst : (Instr.keyThatStays (K.enc k) (K.enc k)).run P w = .ok (K.enc k) w := by simp [Instr.keyThatStays, K.same, Sem.run_pure]
      simp only [Instr.mapUpdate, Sem.run_bind, run_underlying ht.u, Result.andThen_ok, hg, h.check, hf, hie, Array.getElem?_eq_getElem, Option.map_some, Option.getD_some, hkey, hst, g1]
    · rw [h2, List.map_set, ← he]
      apply List.ext_getElem?
      intro j
      simp only [Array.toList_modify, List.getElem?_map, List.getElem?_set, List.getElem?_modify]
      by_cases hij : i = j
      · subst hij; simp [hie]
      · simp [hij]

section
variable {ops : Array Oper} {Q : Exit → Act → World → Prop} {a : Act} {rest : List Oper} {o : Oper}

/-- A map that is there, and what it holds. -/
class HasM (K : KEnc κ) (b : Nat) (As : List HP) (kv : outParam (List (κ × Value))) (rest : outParam (List HP)) : Prop where perm : As.Perm (mapHP K b kv :: rest)
instance (priority := 2000) HasM.here {b : Nat} {kv : List (κ × Value)} : HasM K b (mapHP K b kv :: As) kv As := ⟨.refl _⟩
instance HasM.there {b : Nat} {kv : List (κ × Value)} {B : HP} [h : HasM K b As kv r] : HasM K b (B :: As) kv (B :: r) := ⟨(h.perm.cons B).trans (.swap _ B r)⟩

theorem wl_makeMap {t : TypeId} (K : KEnc κ) (H : Sat w0 w As) (hop : o.op = .makeMap t none) (hgd : Region.wanted o (yielded ops a.tmps) = true)
    (k : ∀ b w', Sat w0 w' (mapHP K b [] :: As) → wpList P ops Q rest (a.put o.dst (.map (some b))) w') : wpList P ops Q (o :: rest) a w := by
  refine wl_of_wp hgd ?_
  have hs := k _ _ (mapHP_iff.2 ⟨#[], 0, rfl, H.alloc (.map #[] 0)⟩)
  unfold Oper.wp execOp
  simp only [hop, Option.map_none, Instr.makeMap, newObj, Sem.run_bind, Sem.run_pure, Result.andThen_ok]
  exact hs

theorem wl_lookup {t : TypeId} {x y : Operand} {b : Nat} {k : κ} {kv : List (κ × Value)} {z : Value} (K : KEnc κ) (H : Sat w0 w As) (hop : o.op = .lookup t x y false) (hgd : Region.wanted o (yielded ops a.tmps) = true)
    (hx : a.eval x = .map (some b)) (hy : a.eval y = K.enc k) (ht : MapTy P t kt et) (h : KeyOk P kt K) (hz : ZeroOf P et z) (hm : HasM K b As kv r)
    (c : wpList P ops Q rest (a.put o.dst (getK k kv z)) w) : wpList P ops Q (o :: rest) a w := by
  refine wl_of_wp hgd ?_
  have hrun := run_lookup (k := k) ht h hz (H.perm hm.perm)
  unfold Oper.wp execOp
  simp only [hop, hx, hy, hrun, Sem.run_bind, Sem.run_pure, Result.andThen_ok]
  exact c

theorem wl_mapUpdate {t : TypeId} {x y z : Operand} {b : Nat} {k : κ} {u : Value} {kv : List (κ × Value)} (K : KEnc κ) (H : Sat w0 w As) (hop : o.op = .mapUpdate t x y z) (hgd : Region.wanted o (yielded ops a.tmps) = true)
    (hx : a.eval x = .map (some b)) (hy : a.eval y = K.enc k) (hu : a.eval z = u) (ht : MapTy P t kt et) (h : KeyOk P kt K) (hm : HasM K b As kv r)
    (c : ∀ w', Sat w0 w' (mapHP K b (putK k u kv) :: r) → wpList P ops Q rest (a.put o.dst undef) w') : wpList P ops Q (o :: rest) a w := by
  refine wl_of_wp hgd ?_
  obtain ⟨w', hrun, hs⟩ := run_update (k := k) (u := u) ht h (H.perm hm.perm)
  have hs := c w' hs
  unfold Oper.wp execOp
  simp only [hop, hx, hy, hu, hrun, Sem.run_bind, Sem.run_pure, Result.andThen_ok]
  exact hs
end
end
abbrev intK : KEnc Int := ⟨fun n => .int .i64 n, fun k => by simp [Instr.sameBits]⟩
abbrev int2K : KEnc (Int × Int) := ⟨fun p => .agg #[.int .i64 p.1, .int .i64 p.2], fun k => by simp [Instr.sameBits]⟩
end Go.SL
