/- A part of the proof: contracts of functions of the given program, and the laws on memory that they lean on. -/
import Derived.Test.YtcdkaggdidfenaaGreatDoorMData2
import Derived.ChangeSame
import Derived.ChangeSlices
import Derived.Deep.Slices
import Derived.Deep.Fields
set_option linter.all false
namespace Go.SL
open Go Go.RowKit Go.ChangeShapes Go.WideShapes Go.Deep St

theorem exL {α : Type} {p : Nat → α → Prop} : ∀ n, (∀ i, i < n → ∃ y, p i y) → ∃ l : List α, l.length = n ∧ ∀ i y, l[i]? = some y → p i y := by
  intro n
  induction n with
  | zero => exact fun _ => ⟨[], rfl, fun i y h => by simp at h⟩
  | succ n ih =>
    intro h
    obtain ⟨l, hl, hp⟩ := ih (fun i hi => h i (by omega))
    obtain ⟨y, hy⟩ := h n (by omega)
    refine ⟨l ++ [y], by simp [hl], fun i z hz => ?_⟩
    by_cases hi : i < n
    · exact hp i z (by rw [List.getElem?_append_left (by omega)] at hz; exact hz)
    · have hlt := (List.getElem?_eq_some_iff.1 hz).1
      simp [hl] at hlt
      obtain rfl : i = n := by omega
      rw [List.getElem?_append_right (by omega), hl] at hz
      simp at hz
      subst hz
      exact hy

/-- A slice whose elements' cells are known reads as a list. -/
theorem rd_of_cells {α : Type} {E : Enc α} {w : World} {g off len cap : Nat} (hl : len ≤ cap) (hm : cap ≤ maxLen)
    (h : ∀ i, i < len → ∃ y : α, ∀ j u, (E.enc y)[j]? = some u → w.cell? ⟨g, off + (i * E.k + j), none⟩ = some u) :
    ∃ l : List α, l.length = len ∧ RdSl E (.slice (some ⟨g, off, none⟩) len cap) l w := by
  obtain ⟨l, hll, hp⟩ := exL len h
  refine ⟨l, hll, .inr ⟨g, off, cap, by rw [hll], by omega, hm, fun j u hj => ?_⟩⟩
  have hjl : j < l.length * E.k := by rw [← E.length_all]; exact (List.getElem?_eq_some_iff.1 hj).1
  have hd : j / E.k < l.length := Nat.div_lt_of_lt_mul (by rw [Nat.mul_comm]; exact hjl)
  have hmod : j % E.k < E.k := Nat.mod_lt _ E.pos
  have hx : l[j / E.k]? = some (l[j / E.k]'hd) := by simp
  have hg := E.get l (j / E.k) (j % E.k) _ hx hmod
  have hj' : j / E.k * E.k + j % E.k = j := by rw [Nat.mul_comm]; exact Nat.div_add_mod j E.k
  rw [hj', hj] at hg
  have := hp _ _ hx _ _ hg.symm
  rwa [hj'] at this

section
variable {H : Type} {enc : TypeId × Value → H} {P : Program} {w : World} {base : Nat} {spare : Nat → Bool} {held : Bool}

theorem fld {t : TypeId} {fs : Array Field} {fuel : Nat} {cs : List Value} {x : DataW H × List MemPlace} {i : Nat} {f : Field} (ht : P.underlying t = some (.struct fs)) (h : DataW.trod enc P w base spare held fuel t cs = some x) (hf : fs[i]? = some f) :
    ∃ n y, DataW.trod enc P w base spare held n f.type ((cs.drop f.offset).take (P.cellsOf f.type)) = some y := by
  obtain ⟨xs, n, _, _, _, hlen, hg⟩ := DataW.trod_struct ht h
  have hlt : i < fs.size := (Array.getElem?_eq_some_iff.1 hf).1
  exact ⟨n, xs[i]'(by omega), by rw [hg i f hf]; simp⟩

theorem rd_ints {t e : TypeId} {fuel : Nat} {a : Option Addr} {len cap : Nat} {x : DataW H × List MemPlace} (ht : P.underlying t = some (.slice e)) (he : P.underlying e = some (.int .i64)) (hc : P.cellsOf e = 1)
    (h : DataW.trod enc P w base (fun _ => true) held fuel t [.slice a len cap] = some x) (hs : ∀ b, a = some b → b.spot = none) : ∃ l : List Int, RdSl intE (.slice a len cap) l w := by
  rcases open_ints ht he hc h with ⟨h1, _⟩ | ⟨b, n, c, zs, h1, _, hl, hm, hz, _, hcell, _⟩
  · simp at h1; obtain ⟨rfl, rfl, rfl⟩ := h1; exact ⟨[], .inl ⟨rfl, rfl⟩⟩
  · simp at h1
    obtain ⟨rfl, rfl, rfl⟩ := h1
    have hsp := hs b rfl
    obtain ⟨g, off, sp⟩ := b
    simp at hsp; subst hsp
    simp only [if_true] at hz
    obtain ⟨l, _, hr⟩ := rd_of_cells (E := intE) (w := w) (g := g) (off := off) hl hm (fun i hi => ⟨zs.getD i 0, fun j u hj => by
      cases j with
      | succ j => simp at hj
      | zero =>
        simp at hj
        subst hj
        have := hcell i (by omega)
        rw [Addr.add_lit] at this
        simpa using this⟩)
    exact ⟨l, hr⟩

theorem open_slice_fields' {t e : TypeId} {fs : Array Field} {fuel : Nat} {cs : List Value} {x : DataW H × List MemPlace} (ht : P.underlying t = some (.slice e)) (he : P.underlying e = some (.struct fs))
    (hone : oneCellFields P fs = true) (hC : P.cellsOf e = fs.size) (h : DataW.trod enc P w base (fun _ => true) held fuel t cs = some x) :
    (cs = [.slice none 0 0]) ∨
    ∃ (a : Addr) (len cap : Nat), cs = [.slice (some a) len cap] ∧ len ≤ cap ∧ cap ≤ maxLen ∧
      ∀ i, i < cap → ∃ (n : Nat), ∀ (j : Nat) (f : Field), fs[j]? = some f → ∃ (v : Value) (y : DataW H × List MemPlace), w.cell? (a.add (i * fs.size + j)) = some v ∧ DataW.trod enc P w base (fun _ => true) held n f.type [v] = some y := by
  rcases open_slice ht h with h0 | ⟨a, len, cap, m, n, D, Pl, hcs, hb, hl, hm, hmm, hx, hi⟩
  · exact .inl h0.1
  · refine .inr ⟨a, len, cap, hcs, hl, hm, fun i him => ?_⟩
    obtain ⟨cs', hc, ht'⟩ := hi i (by rw [hmm]; simpa using him)
    rw [hC] at hc
    obtain ⟨ys, n', hn', hy, hlen, hyl, hf⟩ := DataW.trod_struct he ht'
    obtain ⟨_, hcl, hat⟩ := World.cells?_some hc
    refine ⟨n', fun j f hj => ?_⟩
    obtain ⟨ho, hk⟩ := hone_of hone j f hj
    have hjl : j < fs.size := (Array.getElem?_eq_some_iff.1 hj).1
    have hcell := hat j hjl
    have hv : cs'[j]? = some (cs'[j]'(by omega)) := List.getElem?_eq_getElem (by omega)
    have h1 := hf j f hj
    rw [ho, hk] at h1
    have hone' : (cs'.drop j).take 1 = [cs'[j]'(by omega)] := by
      rw [List.drop_eq_getElem_cons (by omega)]
      rfl
    rw [hone'] at h1
    have hys : ys[j]? = some (ys[j]'(by omega)) := List.getElem?_eq_getElem (by omega)
    refine ⟨_, _, ?_, h1.trans hys⟩
    rw [← Go.Deep.add_add, hcell, hv]

theorem rd_pairs {t e s : TypeId} {f0 f1 : Field} {fuel : Nat} {a : Option Addr} {len cap : Nat} {x : DataW H × List MemPlace} (ht : P.underlying t = some (.slice e)) (he : P.underlying e = some (.struct #[f0, f1]))
    (h0 : f0.type = s) (h1 : f1.type = s) (hsty : P.underlying s = some .string) (hone : oneCellFields P #[f0, f1] = true) (hC : P.cellsOf e = 2)
    (h : DataW.trod enc P w base (fun _ => true) held fuel t [.slice a len cap] = some x) (hs : ∀ b, a = some b → b.spot = none) : ∃ l : List Pr, RdSl pairE (.slice a len cap) l w := by
  rcases open_slice_fields' ht he hone hC h with h1 | ⟨b, n, c, hcs, hl, hm, hcell⟩
  · simp at h1; obtain ⟨rfl, rfl, rfl⟩ := h1; exact ⟨[], .inl ⟨rfl, rfl⟩⟩
  · simp at hcs
    obtain ⟨rfl, rfl, rfl⟩ := hcs
    have hsp := hs b rfl
    obtain ⟨g, off, sp⟩ := b
    simp at hsp; subst hsp
    obtain ⟨l, _, hr⟩ := rd_of_cells (E := pairE) (w := w) (g := g) (off := off) hl hm (fun i hi => by
      obtain ⟨q, hf⟩ := hcell i (by omega)
      obtain ⟨v0, y0, c0, t0⟩ := hf 0 f0 rfl
      obtain ⟨v1, y1, c1, t1⟩ := hf 1 f1 rfl
      rw [h0] at t0
      rw [h1] at t1
      obtain ⟨s0, e0, _⟩ := DataW.trod_string hsty t0
      obtain ⟨s1, e1, _⟩ := DataW.trod_string hsty t1
      simp at e0 e1
      subst e0 e1
      rw [Addr.add_lit] at c0 c1
      refine ⟨⟨s0, s1⟩, fun j u hj => ?_⟩
      match j, hj with
      | 0, hj => simp at hj; subst hj; simpa using c0
      | 1, hj => simp at hj; subst hj; simpa using c1
      | j + 2, hj => simp at hj)
    exact ⟨l, hr⟩

theorem okInt {r : Reach} {b t : Nat} {v : Value} (ht : P.underlying t = some (.int .i64)) (h : Cell.okWide P w r b t v) : ∃ n, v = .int .i64 n := by
  unfold Cell.okWide Cell.ok at h
  rw [ht] at h
  cases v <;> simp at h
  obtain ⟨rfl, _⟩ := h
  exact ⟨_, rfl⟩
theorem okSlice {r : Reach} {b t e : Nat} {v : Value} (ht : P.underlying t = some (.slice e)) (h : Cell.okWide P w r b t v) : ∃ a len cap, v = .slice a len cap ∧ ∀ c, a = some c → c.spot = none := by
  unfold Cell.okWide Cell.ok at h
  rw [ht] at h
  cases v with
  | slice a len cap =>
    refine ⟨a, len, cap, rfl, fun c hc => ?_⟩
    subst hc
    simp at h
    exact h.2.2.2.1
  | _ => simp at h
theorem okCells {r : Reach} {b t : Nat} {v : Value} {fs : Array Field} {ts : List TypeId} {n : Nat} (ht : P.underlying t = some (.struct fs)) (hts : P.cellTypes P.depth t = some ts) (hn : P.cellsOf t = n) (hl : ts.length = n) (h : Value.okWide P w r b t v) :
    ∃ cs : List Value, v = .agg cs.toArray ∧ cs.length = n ∧ ∀ (i : Nat) (u : TypeId) (c : Value), ts[i]? = some u → cs[i]? = some c → Cell.okWide P w r b u c := by
  unfold Value.okWide at h
  rw [ht] at h
  obtain ⟨⟨cs⟩, rfl, hsz, ts', hts', _, hc⟩ := h
  rw [hts] at hts'
  obtain rfl := Option.some.inj hts'
  refine ⟨cs, rfl, by rw [← hn, ← hsz]; simp, fun i u c hu hci => ?_⟩
  obtain ⟨u', hu', hk⟩ := hc i c (by simpa using hci)
  have hlt := (List.getElem?_eq_some_iff.1 hu).1
  rw [Nat.mod_eq_of_lt hlt, hu] at hu'
  obtain rfl := Option.some.inj hu'
  exact hk
end
end Go.SL
