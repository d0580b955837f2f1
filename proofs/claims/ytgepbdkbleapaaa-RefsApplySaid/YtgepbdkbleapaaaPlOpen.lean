/- What is handed in, opened to plain data: texts, numbers, rows of these and of structs, by the walk's own kinds (Kd). -/
import Derived.Test.YtgepbdkbleapaaaWords
import Derived.ChangeArms
import Derived.SizedLaws
import Derived.ChangeSlices
import Derived.Deep.Slices
namespace Go.Proofs.Ytgepbdkbleapaaa.Pl
set_option linter.unusedVariables false
open Go Go.RowKit Go.ChangeShapes Go.Proofs.YtgepbdkbleapaaaW.PrintWords Go.Proofs.YtgepbdkbleapaaaW.PrintLast

/-- What is handed in at type t comes to a datum of kind d, of which Q holds. -/
structure Opn {α : Type} (P : Program) (w : World) (t : TypeId) (d : Kd α) (Q : α → Prop) : Prop where
  get : ∀ {H : Type} (enc : TypeId × Value → H) (base : Nat) (spare : Nat → Bool) (held : Bool) (n : Nat) (cs : List Value) (y : DataW H × List MemPlace),
    DataW.trod enc P w base spare held n t cs = some y → (∀ k ∈ y.1.weights P t, k ≤ reachBytes) → ∃ x, d.K w x cs ∧ Q x

section
variable {P : Program} {w : World} {t : TypeId}

theorem Opn.string (ht : P.underlying t = some .string) : Opn P w t Kd.string (fun s => s.size ≤ 140737488351232) := by
  constructor
  intro H enc base spare held n cs y h hw
  obtain ⟨s, rfl, rfl, _⟩ := DataW.trod_string ht h
  refine ⟨s, rfl, ?_⟩
  have := hw s.data.toList.length (by simp [DataW.weights])
  simpa [reachBytes] using this

theorem Opn.int {k : IntKind} (ht : P.underlying t = some (.int k)) : Opn P w t (Kd.int k) (fun n => (Lit.int k n).wf = true) := by
  constructor
  intro H enc base spare held n cs y h hw
  obtain ⟨x, rfl, rfl, hx⟩ := DataW.trod_int ht h
  exact ⟨x, rfl, hx⟩

theorem Opn.bool (ht : P.underlying t = some .bool) : Opn P w t Kd.bool (fun _ => True) := by
  constructor
  intro H enc base spare held n cs y h hw
  obtain ⟨x, rfl, rfl⟩ := DataW.trod_bool ht h
  exact ⟨x, rfl, trivial⟩

theorem weightsAll_mem {H : Type} {P : Program} {e : TypeId} : ∀ {ds : List (DataW H)} {d : DataW H}, d ∈ ds → ∀ k ∈ d.weights P e, k ∈ DataW.weightsAll P e ds
  | x :: ds, d, hd, k, hk => by
    simp only [DataW.weightsAll, List.mem_append]
    rcases List.mem_cons.mp hd with rfl | hd
    · exact .inl hk
    · exact .inr (weightsAll_mem hd k hk)
  | [], _, hd, _, _ => by cases hd

theorem Opn.slice {α : Type} {d : Kd α} {Q : α → Prop} {e : TypeId} (ht : P.underlying t = some (.slice e)) (hc : P.cellsOf e = d.sz) (hb : 1 ≤ P.bytesOf e) (h : Opn P w e d Q) :
    Opn P w t (Kd.slice e d) (fun xs => xs.length * P.bytesOf e ≤ 140737488351232 ∧ ∀ x ∈ xs, Q x) := by
  constructor
  intro H enc base spare held n cs y hy hw
  rcases DataW.trod_slice ht hy with ⟨rfl, rfl⟩ | ⟨a, len, cap, elems, rest, m, _, rfl, rfl, _, hl, hm, hlen, hel, _⟩
  · refine ⟨[], ⟨none, 0, rfl, Nat.le_refl _, rfl, by simp, fun h => by simp at h⟩, by simp, fun x hx => by cases hx⟩
  have hwt : (elems.length + rest.length) * P.bytesOf e ≤ reachBytes := hw _ (by simp [DataW.weights, ht])
  have hnum : len * P.bytesOf e ≤ 140737488351232 := by
    have h1 : len * P.bytesOf e ≤ (elems.length + rest.length) * P.bytesOf e := Nat.mul_le_mul_right _ (by omega)
    have h2 : reachBytes = 140737488351232 := rfl
    omega
  have hlen2 : len ≤ 9223372036854775807 := by
    have : len * 1 ≤ len * P.bytesOf e := Nat.mul_le_mul_left _ hb
    omega
  have each : ∀ i, i < len → ∃ x, (∃ c, c.length = d.sz ∧ d.K w x c ∧ ∀ j u, c[j]? = some u → w.cell? (a.add (i * d.sz + j)) = some u) ∧ Q x := by
    intro i hi
    have h1 := hel i hi
    have hy : elems[i]? = some (elems[i]'(by omega)) := List.getElem?_eq_getElem (by omega)
    rw [hy, Option.bind_eq_some_iff] at h1
    obtain ⟨c, hcs, htr⟩ := h1
    obtain ⟨x, hK, hQ⟩ := h.get enc base spare held m c _ htr (fun k hk => hw k (by
      simp only [DataW.weights, ht]
      refine List.mem_cons_of_mem _ (List.mem_append_left _ (weightsAll_mem (List.mem_map.mpr ⟨_, List.getElem_mem (by omega), rfl⟩) k hk))))
    obtain ⟨_, hcl, hat⟩ := World.cells?_some hcs
    refine ⟨x, ⟨c, by rw [hcl, hc], hK, fun j u hj => ?_⟩, hQ⟩
    obtain ⟨hjl, _⟩ := List.getElem?_eq_some_iff.mp hj
    have hcell := hat j (by omega)
    rw [hj, hc] at hcell
    have ea : a.add (i * d.sz + j) = (a.add (i * d.sz)).add j := by
      rw [Go.Deep.add_add]
    rw [ea]
    exact hcell
  have all : ∀ m, m ≤ len → ∃ xs : List α, xs.length = m ∧ (∀ x ∈ xs, Q x) ∧ ∀ i x, xs[i]? = some x → ∃ c, c.length = d.sz ∧ d.K w x c ∧ ∀ j u, c[j]? = some u → w.cell? (a.add (i * d.sz + j)) = some u := by
    intro m
    induction m with
    | zero => exact fun _ => ⟨[], rfl, fun x hx => (by cases hx), fun i x hx => by simp at hx⟩
    | succ m ih =>
      intro hm
      obtain ⟨xs, h1, h2, h3⟩ := ih (by omega)
      obtain ⟨x, hx, hQ⟩ := each m (by omega)
      refine ⟨xs ++ [x], by rw [List.length_append, h1]; rfl, ?_, ?_⟩
      · intro y hy
        rcases List.mem_append.mp hy with hy | hy
        · exact h2 y hy
        · rw [List.mem_singleton.mp hy]
          exact hQ
      · intro i y hi
        by_cases hlt : i < xs.length
        · rw [List.getElem?_append_left hlt] at hi
          exact h3 i y hi
        · rw [List.getElem?_append_right (by omega)] at hi
          have e0 : i = m := by
            have := (List.getElem?_eq_some_iff.mp hi).1
            simp at this
            omega
          subst e0
          rw [h1, Nat.sub_self] at hi
          obtain rfl := Option.some.inj hi
          exact hx
  obtain ⟨xs, h1, h2, h3⟩ := all len (Nat.le_refl _)
  subst h1
  exact ⟨xs, ⟨some a, cap, rfl, hl, rfl, hlen2, fun _ => ⟨a, rfl, h3⟩⟩, hnum, h2⟩

/-- The fields of a struct from one on. -/
structure OpnEach {α : Type} (P : Program) (w : World) (fs : List Field) (off : Nat) (d : Kd α) (Q : α → Prop) : Prop where
  get : ∀ {H : Type} (enc : TypeId × Value → H) (base : Nat) (spare : Nat → Bool) (held : Bool) (n : Nat) (cs : List Value) (ys : List (DataW H × List MemPlace)),
    cs.length = off + d.sz → ys.length = fs.length → (∀ (i : Nat) (f : Field), fs[i]? = some f → DataW.trod enc P w base spare held n f.type ((cs.drop f.offset).take (P.cellsOf f.type)) = ys[i]?) →
    (∀ k ∈ DataW.weightsEach P (fs.map (·.type)) (ys.map (·.1)), k ≤ reachBytes) → ∃ x, d.K w x (cs.drop off) ∧ Q x

theorem OpnEach.one {α : Type} {d : Kd α} {Q : α → Prop} {f : Field} {off : Nat} (ho : f.offset = off) (hc : P.cellsOf f.type = d.sz) (h : Opn P w f.type d Q) : OpnEach P w [f] off d Q := by
  constructor
  intro H enc base spare held n cs ys hl hy hf hw
  obtain ⟨y, rfl⟩ := List.length_eq_one_iff.mp hy
  have h0 := hf 0 f rfl
  rw [ho, hc, List.take_of_length_le (by rw [List.length_drop]; omega)] at h0
  exact h.get enc base spare held n _ y h0 (fun k hk => hw k (by simp [DataW.weightsEach, hk]))

theorem OpnEach.cons {α β : Type} {d : Kd α} {d' : Kd β} {Q : α → Prop} {Q' : β → Prop} {f : Field} {fs : List Field} {off : Nat} (ho : f.offset = off) (hc : P.cellsOf f.type = d.sz) (h : Opn P w f.type d Q) (h' : OpnEach P w fs (off + d.sz) d' Q') :
    OpnEach P w (f :: fs) off (Kd.pair d d') (fun x => Q x.1 ∧ Q' x.2) := by
  constructor
  intro H enc base spare held n cs ys hl hy hf hw
  have hl' : cs.length = off + d.sz + d'.sz := by rw [hl, Nat.add_assoc]; rfl
  match ys, hy with
  | y :: ys, hy =>
    have h0 := hf 0 f rfl
    rw [ho, hc] at h0
    obtain ⟨x, hK, hQ⟩ := h.get enc base spare held n _ y h0 (fun k hk => hw k (by simp [DataW.weightsEach, hk]))
    obtain ⟨x', hK', hQ'⟩ := h'.get enc base spare held n cs ys hl' (by simpa using hy) (fun i g hg => hf (i + 1) g (by simpa using hg)) (fun k hk => hw k (by simp [DataW.weightsEach, hk]))
    refine ⟨(x, x'), ⟨_, _, ?_, hK, hK'⟩, hQ, hQ'⟩
    rw [← List.drop_drop, List.take_append_drop]

theorem Opn.struct {α : Type} {d : Kd α} {Q : α → Prop} {fs : List Field} (ht : P.underlying t = some (.struct fs.toArray)) (hc : P.cellsOf t = d.sz) (h : OpnEach P w fs 0 d Q) : Opn P w t d Q := by
  constructor
  intro H enc base spare held n cs y hy hw
  obtain ⟨xs, m, _, rfl, hl, hxl, hf⟩ := DataW.trod_struct ht hy
  obtain ⟨x, hK, hQ⟩ := h.get enc base spare held m cs xs (by omega) (by simpa using hxl) (fun i f hi => hf i f (by simpa using hi)) (fun k hk => hw k (by simpa [DataW.weights, ht] using hk))
  exact ⟨x, by simpa using hK, hQ⟩

theorem Opn.iso {α β : Type} {d : Kd α} {Q : α → Prop} {f : β → α} (g : α → β) (hg : ∀ x, f (g x) = x) (h : Opn P w t d Q) : Opn P w t (Kd.iso d f) (fun y => Q (f y)) := by
  constructor
  intro H enc base spare held n cs y hy hw
  obtain ⟨x, hK, hQ⟩ := h.get enc base spare held n cs y hy hw
  exact ⟨g x, by show d.K w (f (g x)) cs; rw [hg]; exact hK, by show Q (f (g x)); rw [hg]; exact hQ⟩

/-- A row among the arguments. -/
theorem Opn.arg {α : Type} {d : Kd α} {Q : List α → Prop} {e : TypeId} {H : Type} {enc : TypeId × Value → H} {base : Nat} {spare : Nat → Bool} {held : Bool} {v : Value} {y : DataW H} {p : List MemPlace} {A : Option Addr} {len cap : Nat}
    (h : Opn P w t (Kd.slice e d) Q) (hv : v = .slice A len cap) (ht : DataW.Trod enc P w base spare held t v y p) (hw : ∀ k ∈ y.weights P t, k ≤ reachBytes) :
    ∃ xs : List α, xs.length = len ∧ len ≤ cap ∧ d.C w A xs.length xs ∧ Q xs := by
  subst hv
  obtain ⟨n, hn⟩ := ht
  obtain ⟨xs, ⟨A', c', he, hle, hC⟩, hQ⟩ := h.get enc base spare held n _ _ hn hw
  have he2 : Value.slice A len cap = .slice A' xs.length c' := by
    have : ([Value.slice A len cap] : List Value) = [.slice A' xs.length c'] := by simpa [Value.cells] using he
    exact List.singleton_inj.mp this
  injection he2 with h1 h2 h3
  subst h1 h2 h3
  exact ⟨xs, rfl, hle, hC, hQ⟩
end
end Go.Proofs.Ytgepbdkbleapaaa.Pl
