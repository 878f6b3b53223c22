/- The statement TagRuns: the law standstill's standstill/standstilllaw07.TagRuns answers true for every input and leaves its arguments as they were, by the walk of its code and the plain law YtkinnaegedbanaaPureTagRuns. No condition. -/
import Derived.Test.YtkinnaegedbanaaRows
import Derived.Test.YtkinnaegedbanaaPTagRunsx6
import Derived.Test.YtkinnaegedbanaaPureTagRuns
import Derived.Test.YtkinnaegedbanaaWOpen
import Derived.WalkKit
import Derived.ProofKit
import Derived.OpenShut
import Derived.ShutString
import Derived.ChangeOld
import Derived.Below
import Derived.SizedLaws
namespace Go.Proofs.Ytkinnaegedbanaa.tagRuns
open Go.ChangeShapes Go.WideShapes Go.ChangeAt Go.RowKit Go.Proofs.Ytkinnaegedbanaa.PTagRuns Go.Proofs.YtkinnaegedbanaaWOpen Go.Proofs.YtkinnaegedbanaaW.PrintWords
open Go.ChangeMaps (open_string shut_string)
set_option linter.unusedVariables false
theorem own : ownKnob Try.prog.godebug = none := by kernel_rfl
theorem laidOut : laidOutB Try.prog = true := by kernel_rfl
theorem opens_T25 {H : Type} {enc : TypeId × Value → H} {W : World} : Opens enc Try.prog W 25 k25 inv25 := by
  intro fuel cs x h hw
  obtain ⟨hl, hf⟩ := trod_fields Try.underlying25 h hw
  have hl' : cs.length = 3 := hl.trans (by kernel_rfl)
  obtain ⟨v0, v1, v2, rfl⟩ : ∃ v0 v1 v2, cs = [v0, v1, v2] := by
    clear hf h hw
    match cs, hl' with
    | [v0, v1, v2], _ => exact ⟨v0, v1, v2, rfl⟩
  obtain ⟨n0, y0, h0, w0⟩ := hf 0 _ rfl
  obtain ⟨a0, K0, I0⟩ := (opens_int Try.underlying3) n0 [v0] y0 (by have e : Try.prog.cellsOf 3 = 1 := (by kernel_rfl); simpa [e] using h0) w0
  injection K0 with e0 _
  subst e0
  obtain ⟨n1, y1, h1, w1⟩ := hf 1 _ rfl
  obtain ⟨a1, K1, I1⟩ := (opens_slice (B := 24) Try.underlying22 (opens_slice (B := 8) Try.underlying26 (opens_int Try.underlying3) (by kernel_rfl) (by kernel_rfl)) (by kernel_rfl) (by kernel_rfl)) n1 [v1] y1 (by have e : Try.prog.cellsOf 22 = 1 := (by kernel_rfl); simpa [e] using h1) w1
  obtain ⟨A1, c1, e1, L1, G1⟩ := K1
  injection e1 with e1 _
  subst e1
  obtain ⟨n2, y2, h2, w2⟩ := hf 2 _ rfl
  obtain ⟨a2, K2, I2⟩ := (opens_slice (B := 1) Try.underlying23 (opens_bool Try.underlying4) (by kernel_rfl) (by kernel_rfl)) n2 [v2] y2 (by have e : Try.prog.cellsOf 23 = 1 := (by kernel_rfl); simpa [e] using h2) w2
  obtain ⟨A2, c2, e2, L2, G2⟩ := K2
  injection e2 with e2 _
  subst e2
  exact ⟨⟨a0, a1, a2⟩, k25_mk W ⟨a0, a1, a2⟩ L1 G1 L2 G2, I0, I1, I2⟩
set_option maxRecDepth 100000 in
theorem lifted (os : Os) (started : os.Started) (H : Type) (enc : TypeId × Value → H) :
    ReturnsInHanded {} Try.checked os 4 .any (Rows.tagRunsSpec.pre6 enc Try.prog Try.f4 Rows.tagRunsRow.domain false) (Rows.tagRunsSpec.post enc Try.prog Try.f4 false true false false) := by
  refine returnsInHanded_of_change_sized (C := Try.checked) own started (by kernel_rfl) Try.func4
    (ChangeSpec.witness6 (enc := enc) (C := Try.checked) false ⟨#[], #[.agg #[.int .i64 0, .slice none 0 0, .slice none 0 0], .slice none 0 0, .int .i64 0], []⟩ 8 (by kernel_rfl) (by kernel_rfl) (by kernel_rfl) (by kernel_rfl)) ?_
  intro W base args ds gs before hval0 hW hcnd hsz0 _
  have hsz : (DataW.weightsEach Try.prog (Try.f4.params.toList ++ Rows.tagRunsSpec.plain.varTypes Try.prog) (ds ++ gs)).all (· ≤ reachBytes) = true := hsz0
  have hval : ∀ (j : Nat) t v, Try.f4.params[j]? = some t → args[j]? = some v → Value.okWide Try.prog W .any base t v := hval0
  have hW' := hW
  obtain ⟨p, q, hA0, hV, rfl, hfz, hnd⟩ := hW
  have hA : DataW.TrodAll enc Try.prog W 0 (fun _ => true) true Try.f4.params.toList args.toList ds p := hA0
  rw [Try.params4] at hA hval hsz
  obtain ⟨v0, vs0, d0, ds0, p0, q0, hargs, rfl, rfl, h0, r0⟩ := trodAll_cons hA
  obtain ⟨v1, vs1, d1, ds1, p1, q1, rfl, rfl, rfl, h1, r1⟩ := trodAll_cons r0
  obtain ⟨v2, vs2, d2, ds2, p2, q2, rfl, rfl, rfl, h2, r2⟩ := trodAll_cons r1
  obtain ⟨rfl, rfl, rfl⟩ := trodAll_nil r2
  obtain rfl : args = #[v0, v1, v2] := by cases args; simp_all
  obtain ⟨rfl, rfl⟩ := trodVars_none hV
  have k0 := h0
  have lt0 : ∀ x ∈ p0, x.block < W.heap.size := by obtain ⟨m, hm⟩ := k0; exact DataW.trod_lt m _ _ _ hm
  have wt0 : ∀ m ∈ d0.weights Try.prog 25, m ≤ reachBytes := fun m hm => by simpa using List.all_eq_true.1 hsz m (DataW.weights_mem_each (j := 0) (t := 25) rfl rfl m hm)
  obtain ⟨fuel0, hf0⟩ := h0
  obtain ⟨cs0, rfl, -⟩ := okWide_struct Try.underlying25 (hval 0 25 v0 rfl rfl)
  obtain ⟨x0, K0, I0⟩ := opens_T25 fuel0 _ _ hf0 wt0
  obtain ⟨A0_1, c0_1, A0_2, c0_2, e0, L0_1, G0_1, L0_2, G0_2⟩ := k25_open K0
  have e0' : cs0 = #[.int .i64 x0.f0, .slice A0_1 x0.f1.length c0_1, .slice A0_2 x0.f2.length c0_2] := by have := congrArg List.toArray e0; simpa [Value.cells] using this
  subst e0'
  clear e0 hf0
  obtain ⟨I0_0, I0_1, I0_2⟩ := I0
  have k1 := h1
  have lt1 : ∀ x ∈ p1, x.block < W.heap.size := by obtain ⟨m, hm⟩ := k1; exact DataW.trod_lt m _ _ _ hm
  have wt1 : ∀ m ∈ d1.weights Try.prog 26, m ≤ reachBytes := fun m hm => by simpa using List.all_eq_true.1 hsz m (DataW.weights_mem_each (j := 1) (t := 26) rfl rfl m hm)
  obtain ⟨fuel1, hf1⟩ := h1
  obtain ⟨x1, len1, cap1, rfl⟩ := okWide_slice Try.underlying26 (hval 1 26 v1 rfl rfl)
  obtain ⟨l1, K1, I1⟩ := (opens_slice (B := 8) Try.underlying26 (opens_int Try.underlying3) (by kernel_rfl) (by kernel_rfl)) fuel1 _ _ hf1 wt1
  obtain ⟨A1, c1, e1, L1, G1⟩ := K1
  have e1' : (Value.slice x1 len1 cap1) = .slice A1 l1.length c1 := by simpa [Value.cells] using e1
  rw [e1'] at hW' k1 ⊢
  clear e1 e1' hf1
  obtain ⟨a2, rfl, rfl, rfl, w2⟩ := open_int Try.underlying3 (hval 2 3 v2 rfl rfl) h2
  clear hA0 hval0 hsz0 hsz
  obtain ⟨k_, hk_⟩ := Pure.TagRuns x0.f0 x0.f1 x0.f2 l1 a2 I0_0 I0_1 I0_2 I1 w2
  refine (standstilllaw07_TagRuns.calls k_ x0.f0 A0_1 c0_1 x0.f1 A0_2 c0_2 x0.f2 A1 c1 l1 a2 true W G0_1 L0_1 G0_2 L0_2 G1 L1 hk_).mono fun e W' ⟨he, bel0⟩ => ?_
  have bel : Below W.heap.size W W' := bel0
  clear bel0
  subst he
  exact ⟨_, rfl, _, _, _, [], _, [], hW', trodAll_mk1 (shut_bool Try.underlying4 _), (trodAll_cons_mk (Below.trod laidOut (by kernel_rfl) (of_decide_eq_true (by kernel_rfl)) k0 bel lt0) (trodAll_cons_mk (Below.trod laidOut (by kernel_rfl) (of_decide_eq_true (by kernel_rfl)) k1 bel lt1) (trodAll_cons_mk (shut_int Try.underlying3 w2) trodAll_mk0))), rfl, bel.frame _, fun h => by cases h⟩
theorem over : Rows.tagRunsRow.holds Try.pinned (OpenSpec.ofChange Rows.tagRunsSpec) :=
  OpenClaim.holds_of_wide 4 Try.f4 rfl rfl rfl rfl rfl rfl rfl ⟨rfl, rfl, rfl, rfl, rfl⟩ rfl rfl rfl rfl rfl (by kernel_rfl) Try.func4 (by kernel_rfl)
    (of_decide_eq_true (by kernel_rfl)) (by unfold Func.isWrapper; first | (rw [if_pos (by decide +kernel)]; kernel_rfl) | (rw [if_neg (by decide +kernel)]; exact ⟨rfl, rfl⟩))
    (fun os started H enc _ => lifted os started H enc)
theorem proved : Rows.TagRunsSaid := over
#print axioms proved
end Go.Proofs.Ytkinnaegedbanaa.tagRuns
namespace Go.Proofs.Ytkinnaegedbanaa
/-- The row, under a short name, for the claim. -/
theorem tagRuns_holds : Rows.TagRunsSaid := tagRuns.proved
end Go.Proofs.Ytkinnaegedbanaa
