-- the words that this claim uses, cut to what it names, by a program of this session; Lean checks it
import Derived.Test.YtkbekdjoaibhbaaTWMore
import Derived.Test.YtkbekdjoaibhbaaTWNEv
/-! Plain aids for the pure statements: rounds, lists, whole numbers. -/
namespace Go.Proofs.YtkbekdjoaibhbaaAid
open Go.RowKit Go.Proofs.YtkbekdjoaibhbaaW.PrintWords Go.Proofs.YtkbekdjoaibhbaaW.PrintLast Go.Proofs.YtkbekdjoaibhbaaW.PrintMore
set_option linter.unusedVariables false

theorem Ev_succ {α : Type} {g : Nat → Option α} {r : α} : Ev g r ↔ Ev (fun k => g (k + 1)) r := by
  constructor
  · rintro ⟨K, h⟩
    exact ⟨K, fun k hk => h (k + 1) (by omega)⟩
  · intro h
    exact Ev.step (fun _ => rfl) h
theorem Ev_ite {α : Type} {c : Prop} [Decidable c] {f g : Nat → Option α} {r : α} : Ev (fun k => if c then f k else g k) r ↔ if c then Ev f r else Ev g r := by
  by_cases h : c
  · simp only [if_pos h]
  · simp only [if_neg h]
theorem Ev_some {α : Type} {a r : α} : Ev (fun _ => some a) r ↔ a = r := by
  constructor
  · rintro ⟨K, h⟩
    exact Option.some.inj (h K (Nat.le_refl _))
  · rintro rfl
    exact Ev.now _
theorem Ev_none {α : Type} {r : α} : Ev (fun _ => (none : Option α)) r ↔ False := by
  constructor
  · rintro ⟨K, h⟩
    cases h K (Nat.le_refl _)
  · exact False.elim
theorem Ev_bind {α β : Type} {g : Nat → Option α} {f : Nat → α → Option β} {a : α} {r : β} (h : Ev g a) : Ev (fun k => (g k).bind (f k)) r ↔ Ev (fun k => f k a) r := by
  constructor
  · rintro ⟨K, hk⟩
    obtain ⟨K', h⟩ := h
    refine ⟨max K K', fun n hn => ?_⟩
    have h1 := h n (by omega)
    have h2 := hk n (by omega)
    simp only [h1, Option.bind_some] at h2
    exact h2
  · exact fun k => Ev.bind h k
theorem wrap_id {x : Int} (h0 : -9223372036854775808 ≤ x) (h1 : x ≤ 9223372036854775807) : wrap64 x = x := by
  unfold wrap64
  omega
theorem wf_i64 {x : Int} (h : (Lit.int .i64 x).wf = true) : -9223372036854775808 ≤ x ∧ x ≤ 9223372036854775807 := by
  simp only [Lit.wf, IntKind.min, IntKind.max, IntKind.signed, IntKind.bits, Bool.and_eq_true, decide_eq_true_eq, if_true] at h
  omega
theorem rd_nat (l : List Int) (i : Nat) (h : i < l.length) : rd l (i : Int) = l[i] := by
  simp [rd, List.getD, h]
theorem drop_cons {α : Type} (l : List α) (i : Nat) (h : i < l.length) : l.drop i = l[i] :: l.drop (i + 1) := List.drop_eq_getElem_cons h
end Go.Proofs.YtkbekdjoaibhbaaAid
