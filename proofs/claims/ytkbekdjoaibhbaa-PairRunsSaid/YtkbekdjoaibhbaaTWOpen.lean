-- the words that this claim uses, cut to what it names, by a program of this session; Lean checks it
import Derived.Test.YtkbekdjoaibhbaaTWWords
import Derived.SizedLaws
import Derived.ChangeSlices
import Derived.ChangeArms
import Derived.Lib.SmallJoins
/-! Arguments of a law laid open: what the reading of an argument as data says of its cells, kind by kind. -/
namespace Go.Proofs.YtkbekdjoaibhbaaWOpen
open Go.ChangeShapes Go.WideShapes Go.RowKit Go.Proofs.YtkbekdjoaibhbaaW.PrintWords
set_option linter.unusedVariables false

/-- Whatever is read at type T (its parts within the reach) has the cells of a value of kind d, of which inv holds. -/
def Opens {H α : Type} (enc : TypeId × Value → H) (P : Program) (W : World) (T : TypeId) (d : Kd α) (inv : α → Prop) : Prop :=
  ∀ (fuel : Nat) (cs : List Value) (x : DataW H × List MemPlace), DataW.trod enc P W 0 (fun _ => true) true fuel T cs = some x → (∀ n ∈ x.1.weights P T, n ≤ reachBytes) → ∃ a, d.K W a cs ∧ inv a
section
variable {H α : Type} {enc : TypeId × Value → H} {P : Program} {W : World} {T e : TypeId} {d : Kd α} {inv : α → Prop}
theorem opens_int {k : IntKind} (ht : P.underlying T = some (.int k)) : Opens enc P W T (Kd.int k) (fun a => (Lit.int k a).wf = true) := by
  intro fuel cs x h _
  obtain ⟨n, rfl, _, hw⟩ := DataW.trod_int ht h
  exact ⟨n, rfl, hw⟩
theorem weightsAll_mem : ∀ {l : List (DataW H)} {y : DataW H}, y ∈ l → ∀ n ∈ y.weights P e, n ∈ DataW.weightsAll P e l
  | z :: l, y, hy, n, hn => by
    simp only [DataW.weightsAll, List.mem_append]
    rcases List.mem_cons.1 hy with rfl | hy
    · exact .inl hn
    · exact .inr (weightsAll_mem hy n hn)
theorem choose_list {β : Type} {p : Nat → β → Prop} : ∀ (n : Nat), (∀ i, i < n → ∃ b, p i b) → ∃ l : List β, l.length = n ∧ ∀ i b, l[i]? = some b → p i b
  | 0, _ => ⟨[], rfl, fun i b h => by simp at h⟩
  | n + 1, h => by
    obtain ⟨l, hl, hp⟩ := choose_list n (fun i hi => h i (by omega))
    obtain ⟨b, hb⟩ := h n (by omega)
    refine ⟨l ++ [b], by simp [hl], fun i c hc => ?_⟩
    rcases Nat.lt_or_ge i l.length with hi | hi
    · rw [List.getElem?_append_left hi] at hc
      exact hp i c hc
    · have : i = l.length := by
        have := (List.getElem?_eq_some_iff.1 hc).1
        simp at this
        omega
      subst this
      simp at hc
      subst hc
      rw [hl]
      exact hb
theorem cells_get : ∀ {w : World} {b : Nat} {a : Addr} {n : Nat} {c : List Value}, w.cells? b a n = some c → c.length = n ∧ ∀ i u, c[i]? = some u → w.cell? (a.add i) = some u := by
  intro w b a n c h
  unfold World.cells? at h
  split at h
  · refine ⟨by simpa using mapM_some_length h, fun i u hu => ?_⟩
    have hi : i < n := by
      have := (List.getElem?_eq_some_iff.1 hu).1
      have h2 := mapM_some_length h
      simp at h2
      omega
    have := mapM_some_get h i i (by simp [hi])
    rw [hu] at this
    exact this
  · cases h
theorem opens_slice (ht : P.underlying T = some (.slice e)) (he : Opens enc P W e d inv) (hz : d.sz = P.cellsOf e) {B : Nat} (hB : P.bytesOf e = B) :
    Opens enc P W T (Kd.slice e d) (fun l => l.length * B ≤ 140737488351232 ∧ ∀ x ∈ l, inv x) := by
  intro fuel cs x h hw
  rcases DataW.trod_slice ht h with ⟨rfl, _⟩ | ⟨a, len, cap, elems, rest, n, _, rfl, rfl, _, hlc, hcm, hel, hcell, _, _⟩
  · exact ⟨[], ⟨none, 0, rfl, Nat.le_refl _, rfl, Nat.zero_le _, fun h0 => absurd h0 (Nat.lt_irrefl 0)⟩, by simp, fun _ h => by cases h⟩
  · have hws : ∀ m ∈ DataW.weights P T (.slice (elems.map (·.1)) (rest.map (·.1))), m ≤ reachBytes := hw
    simp only [DataW.weights, ht, List.mem_cons, List.mem_append] at hws
    have hel' : ∀ i, i < len → ∃ b, (∃ c, c.length = d.sz ∧ d.K W b c ∧ ∀ j u, c[j]? = some u → W.cell? ((a.add (i * P.cellsOf e)).add j) = some u) ∧ inv b := by
      intro i hi
      have h1 := hcell i hi
      have hi2 : i < elems.length := by omega
      rw [List.getElem?_eq_getElem hi2] at h1
      obtain ⟨c, hc, ht2⟩ := Option.bind_eq_some_iff.1 h1
      obtain ⟨hcl, hcc⟩ := cells_get hc
      obtain ⟨b, hK, hI⟩ := he n c _ ht2 (fun m hm => hws m (.inr (.inl (weightsAll_mem (List.mem_map.2 ⟨_, List.getElem_mem hi2, rfl⟩) m hm))))
      exact ⟨b, ⟨c, by rw [hcl, hz], hK, hcc⟩, hI⟩
    obtain ⟨l, hl, hp⟩ := choose_list len hel'
    have hsp : ∀ m k : Nat, (a.add m).add k = a.add (m + k) := by
      intro m k
      unfold Addr.add
      split <;> split <;> simp_all <;> omega
    refine ⟨l, ⟨some a, cap, by rw [hl], by omega, rfl, ?_, fun h0 => ⟨a, rfl, fun j p hj => ?_⟩⟩, ?_, ?_⟩
    · simp only [maxLen] at hcm; omega
    · obtain ⟨⟨c, hcl, hK, hcc⟩, _⟩ := hp j p hj
      refine ⟨c, hcl, hK, fun i u hu => ?_⟩
      have := hcc i u hu
      rw [hsp] at this
      rw [hz]
      exact this
    · have := hws _ (.inl rfl)
      rw [hB] at this
      have h2 : l.length * B ≤ ((elems.map (·.1)).length + (rest.map (·.1)).length) * B := Nat.mul_le_mul_right _ (by simp; omega)
      exact Nat.le_trans h2 this
    · intro y hy
      obtain ⟨i, hi, rfl⟩ := List.mem_iff_getElem.1 hy
      exact (hp i _ (List.getElem?_eq_getElem hi)).2
/-- A struct's fields: the cells, and the reading of each. -/
theorem trod_fields {fs : Array Field} {fuel : Nat} {cs : List Value} {x : DataW H × List MemPlace} (ht : P.underlying T = some (.struct fs)) (h : DataW.trod enc P W 0 (fun _ => true) true fuel T cs = some x) (hw : ∀ n ∈ x.1.weights P T, n ≤ reachBytes) :
    cs.length = P.cellsOf T ∧ ∀ (i : Nat) (f : Field), fs[i]? = some f → ∃ n y, DataW.trod enc P W 0 (fun _ => true) true n f.type ((cs.drop f.offset).take (P.cellsOf f.type)) = some y ∧ ∀ m ∈ y.1.weights P f.type, m ≤ reachBytes := by
  obtain ⟨xs, n, _, rfl, hl, hlen, hf⟩ := DataW.trod_struct ht h
  refine ⟨hl, fun i f hi => ?_⟩
  have hi2 : i < xs.length := by
    have := (Array.getElem?_eq_some_iff.1 hi).1
    omega
  have h1 := hf i f hi
  rw [List.getElem?_eq_getElem hi2] at h1
  refine ⟨n, _, h1, fun m hm => hw m ?_⟩
  simp only [DataW.weights, ht]
  refine DataW.weights_mem_each (j := i) (t := f.type) (d := (xs[i]).1) ?_ ?_ m hm
  · rw [List.getElem?_map]
    rw [Array.getElem?_toList, hi]
    rfl
  · rw [List.getElem?_map, List.getElem?_eq_getElem hi2]
    rfl
end
end Go.Proofs.YtkbekdjoaibhbaaWOpen
