/- The statement TagTurns: the law standstill's standstill/standstilllaw07.TagTurns answers true for every input and leaves its arguments as they were, by the walk of its code and the plain law YtkinnaegedbanaaPureTagTurns. No condition. -/
import Derived.Test.YtkinnaegedbanaaRows
import Derived.Test.YtkinnaegedbanaaPTagTurnsx8
import Derived.Test.YtkinnaegedbanaaPureTagTurns
import Derived.Test.YtkinnaegedbanaaWOpen
import Derived.WalkKit
import Derived.ProofKit
import Derived.OpenShut
import Derived.ShutString
import Derived.ChangeOld
import Derived.Below
import Derived.SizedLaws
namespace Go.Proofs.Ytkinnaegedbanaa.tagTurns
open Go.ChangeShapes Go.WideShapes Go.ChangeAt Go.RowKit Go.Proofs.Ytkinnaegedbanaa.PTagTurns Go.Proofs.YtkinnaegedbanaaWOpen Go.Proofs.YtkinnaegedbanaaW.PrintWords
open Go.ChangeMaps (open_string shut_string)
set_option linter.unusedVariables false
theorem own : ownKnob Try.prog.godebug = none := by kernel_rfl
theorem laidOut : laidOutB Try.prog = true := by kernel_rfl
theorem opens_T45 {H : Type} {enc : TypeId × Value → H} {W : World} : Opens enc Try.prog W 45 k45 inv45 := by
  intro fuel cs x h hw
  obtain ⟨hl, hf⟩ := trod_fields Try.underlying45 h hw
  have hl' : cs.length = 1 := hl.trans (by kernel_rfl)
  obtain ⟨v0, rfl⟩ : ∃ v0, cs = [v0] := by
    match cs, hl' with
    | [v0], _ => exact ⟨v0, rfl⟩
  obtain ⟨n0, y0, h0, w0⟩ := hf 0 _ rfl
  obtain ⟨a0, K0, I0⟩ := (opens_slice (B := 24) Try.underlying22 (opens_slice (B := 8) Try.underlying26 (opens_int Try.underlying3) (by kernel_rfl) (by kernel_rfl)) (by kernel_rfl) (by kernel_rfl)) n0 [v0] y0 (by have e : Try.prog.cellsOf 22 = 1 := (by kernel_rfl); simpa [e] using h0) w0
  obtain ⟨A0, c0, e0, L0, G0⟩ := K0
  injection e0 with e0 _
  subst e0
  exact ⟨⟨a0⟩, k45_mk W ⟨a0⟩ L0 G0, I0⟩
theorem opens_T47 {H : Type} {enc : TypeId × Value → H} {W : World} : Opens enc Try.prog W 47 k47 inv47 := by
  intro fuel cs x h hw
  obtain ⟨hl, hf⟩ := trod_fields Try.underlying47 h hw
  have hl' : cs.length = 2 := hl.trans (by kernel_rfl)
  obtain ⟨v0, v1, rfl⟩ : ∃ v0 v1, cs = [v0, v1] := by
    match cs, hl' with
    | [v0, v1], _ => exact ⟨v0, v1, rfl⟩
  obtain ⟨n0, y0, h0, w0⟩ := hf 0 _ rfl
  obtain ⟨a0, K0, I0⟩ := (opens_int Try.underlying3) n0 [v0] y0 (by have e : Try.prog.cellsOf 3 = 1 := (by kernel_rfl); simpa [e] using h0) w0
  injection K0 with e0 _
  subst e0
  obtain ⟨n1, y1, h1, w1⟩ := hf 1 _ rfl
  obtain ⟨a1, K1, I1⟩ := (opens_slice (B := 8) Try.underlying26 (opens_int Try.underlying3) (by kernel_rfl) (by kernel_rfl)) n1 [v1] y1 (by have e : Try.prog.cellsOf 26 = 1 := (by kernel_rfl); simpa [e] using h1) w1
  obtain ⟨A1, c1, e1, L1, G1⟩ := K1
  injection e1 with e1 _
  subst e1
  exact ⟨⟨a0, a1⟩, k47_mk W ⟨a0, a1⟩ L1 G1, I0, I1⟩
set_option maxRecDepth 100000 in
theorem lifted (os : Os) (started : os.Started) (H : Type) (enc : TypeId × Value → H) :
    ReturnsInHanded {} Try.checked os 5 .any (Rows.tagTurnsSpec.pre6 enc Try.prog Try.f5 Rows.tagTurnsRow.domain false) (Rows.tagTurnsSpec.post enc Try.prog Try.f5 false true false false) := by
  refine returnsInHanded_of_change_sized (C := Try.checked) own started (by kernel_rfl) Try.func5
    (ChangeSpec.witness6 (enc := enc) (C := Try.checked) false ⟨#[], #[.agg #[.slice none 0 0], .agg #[.int .i64 0, .slice none 0 0], .int .i64 0], []⟩ 8 (by kernel_rfl) (by kernel_rfl) (by kernel_rfl) (by kernel_rfl)) ?_
  intro W base args ds gs before hval0 hW hcnd hsz0 _
  have hsz : (DataW.weightsEach Try.prog (Try.f5.params.toList ++ Rows.tagTurnsSpec.plain.varTypes Try.prog) (ds ++ gs)).all (· ≤ reachBytes) = true := hsz0
  have hval : ∀ (j : Nat) t v, Try.f5.params[j]? = some t → args[j]? = some v → Value.okWide Try.prog W .any base t v := hval0
  have hW' := hW
  obtain ⟨p, q, hA0, hV, rfl, hfz, hnd⟩ := hW
  have hA : DataW.TrodAll enc Try.prog W 0 (fun _ => true) true Try.f5.params.toList args.toList ds p := hA0
  rw [Try.params5] at hA hval hsz
  obtain ⟨v0, vs0, d0, ds0, p0, q0, hargs, rfl, rfl, h0, r0⟩ := trodAll_cons hA
  obtain ⟨v1, vs1, d1, ds1, p1, q1, rfl, rfl, rfl, h1, r1⟩ := trodAll_cons r0
  obtain ⟨v2, vs2, d2, ds2, p2, q2, rfl, rfl, rfl, h2, r2⟩ := trodAll_cons r1
  obtain ⟨rfl, rfl, rfl⟩ := trodAll_nil r2
  obtain rfl : args = #[v0, v1, v2] := by cases args; simp_all
  obtain ⟨rfl, rfl⟩ := trodVars_none hV
  have k0 := h0
  have lt0 : ∀ x ∈ p0, x.block < W.heap.size := by obtain ⟨m, hm⟩ := k0; exact DataW.trod_lt m _ _ _ hm
  have wt0 : ∀ m ∈ d0.weights Try.prog 45, m ≤ reachBytes := fun m hm => by simpa using List.all_eq_true.1 hsz m (DataW.weights_mem_each (j := 0) (t := 45) rfl rfl m hm)
  obtain ⟨fuel0, hf0⟩ := h0
  obtain ⟨cs0, rfl, -⟩ := okWide_struct Try.underlying45 (hval 0 45 v0 rfl rfl)
  obtain ⟨x0, K0, I0⟩ := opens_T45 fuel0 _ _ hf0 wt0
  obtain ⟨A0_0, c0_0, e0, L0_0, G0_0⟩ := k45_open K0
  have e0' : cs0 = #[.slice A0_0 x0.f0.length c0_0] := by have := congrArg List.toArray e0; simpa [Value.cells] using this
  subst e0'
  clear e0 hf0
  have I0_0 := I0
  have k1 := h1
  have lt1 : ∀ x ∈ p1, x.block < W.heap.size := by obtain ⟨m, hm⟩ := k1; exact DataW.trod_lt m _ _ _ hm
  have wt1 : ∀ m ∈ d1.weights Try.prog 47, m ≤ reachBytes := fun m hm => by simpa using List.all_eq_true.1 hsz m (DataW.weights_mem_each (j := 1) (t := 47) rfl rfl m hm)
  obtain ⟨fuel1, hf1⟩ := h1
  obtain ⟨cs1, rfl, -⟩ := okWide_struct Try.underlying47 (hval 1 47 v1 rfl rfl)
  obtain ⟨x1, K1, I1⟩ := opens_T47 fuel1 _ _ hf1 wt1
  obtain ⟨A1_1, c1_1, e1, L1_1, G1_1⟩ := k47_open K1
  have e1' : cs1 = #[.int .i64 x1.f0, .slice A1_1 x1.f1.length c1_1] := by have := congrArg List.toArray e1; simpa [Value.cells] using this
  subst e1'
  clear e1 hf1
  obtain ⟨I1_0, I1_1⟩ := I1
  obtain ⟨a2, rfl, rfl, rfl, w2⟩ := open_int Try.underlying3 (hval 2 3 v2 rfl rfl) h2
  clear hA0 hval0 hsz0 hsz
  obtain ⟨k_, hk_⟩ := Pure.TagTurns x0.f0 x1.f0 x1.f1 a2 I0_0 I1_0 I1_1 w2
  refine (standstilllaw07_TagTurns.calls k_ A0_0 c0_0 x0.f0 x1.f0 A1_1 c1_1 x1.f1 a2 true W G0_0 L0_0 G1_1 L1_1 hk_).mono fun e W' ⟨he, bel0⟩ => ?_
  have bel : Below W.heap.size W W' := bel0
  clear bel0
  subst he
  exact ⟨_, rfl, _, _, _, [], _, [], hW', trodAll_mk1 (shut_bool Try.underlying4 _), (trodAll_cons_mk (Below.trod laidOut (by kernel_rfl) (of_decide_eq_true (by kernel_rfl)) k0 bel lt0) (trodAll_cons_mk (Below.trod laidOut (by kernel_rfl) (of_decide_eq_true (by kernel_rfl)) k1 bel lt1) (trodAll_cons_mk (shut_int Try.underlying3 w2) trodAll_mk0))), rfl, bel.frame _, fun h => by cases h⟩
theorem over : Rows.tagTurnsRow.holds Try.pinned (OpenSpec.ofChange Rows.tagTurnsSpec) :=
  OpenClaim.holds_of_wide 5 Try.f5 rfl rfl rfl rfl rfl rfl rfl ⟨rfl, rfl, rfl, rfl, rfl⟩ rfl rfl rfl rfl rfl (by kernel_rfl) Try.func5 (by kernel_rfl)
    (of_decide_eq_true (by kernel_rfl)) (by unfold Func.isWrapper; first | (rw [if_pos (by decide +kernel)]; kernel_rfl) | (rw [if_neg (by decide +kernel)]; exact ⟨rfl, rfl⟩))
    (fun os started H enc _ => lifted os started H enc)
theorem proved : Rows.TagTurnsSaid := over
#print axioms proved
end Go.Proofs.Ytkinnaegedbanaa.tagTurns
namespace Go.Proofs.Ytkinnaegedbanaa
/-- The row, under a short name, for the claim. -/
theorem tagTurns_holds : Rows.TagTurnsSaid := tagTurns.proved
end Go.Proofs.Ytkinnaegedbanaa
