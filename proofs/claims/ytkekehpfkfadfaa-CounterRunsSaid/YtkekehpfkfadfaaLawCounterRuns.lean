/- The statement CounterRuns: the law standstill's standstill/standstilllaw06.CounterRuns answers true for every input and leaves its arguments as they were, by the walk of its code and the plain law YtkekehpfkfadfaaPureCounterRuns. No condition. -/
import Derived.Test.YtkekehpfkfadfaaRows
import Derived.Test.YtkekehpfkfadfaaPCounterRunsx12
import Derived.Test.YtkekehpfkfadfaaPureCounterRuns
import Derived.Test.YtkekehpfkfadfaaWOpen
import Derived.WalkKit
import Derived.ProofKit
import Derived.OpenShut
import Derived.ShutString
import Derived.ChangeOld
import Derived.Below
import Derived.SizedLaws
namespace Go.Proofs.Ytkekehpfkfadfaa.counterRuns
open Go.ChangeShapes Go.WideShapes Go.ChangeAt Go.RowKit Go.Proofs.Ytkekehpfkfadfaa.PCounterRuns Go.Proofs.YtkekehpfkfadfaaWOpen Go.Proofs.YtkekehpfkfadfaaW.PrintWords
open Go.ChangeMaps (open_string shut_string)
set_option linter.unusedVariables false
theorem own : ownKnob Try.prog.godebug = none := by kernel_rfl
theorem laidOut : laidOutB Try.prog = true := by kernel_rfl
theorem opens_T33 {H : Type} {enc : TypeId × Value → H} {W : World} : Opens enc Try.prog W 33 k33 inv33 := by
  intro fuel cs x h hw
  obtain ⟨hl, hf⟩ := trod_fields Try.underlying33 h hw
  have hl' : cs.length = 4 := hl.trans (by kernel_rfl)
  obtain ⟨v0, v1, v2, v3, rfl⟩ : ∃ v0 v1 v2 v3, cs = [v0, v1, v2, v3] := by
    clear hf h hw
    match cs, hl' with
    | [v0, v1, v2, v3], _ => exact ⟨v0, v1, v2, v3, rfl⟩
  obtain ⟨n0, y0, h0, w0⟩ := hf 0 _ rfl
  obtain ⟨a0, K0, I0⟩ := (opens_int Try.underlying3) n0 [v0] y0 (by have e : Try.prog.cellsOf 3 = 1 := (by kernel_rfl); simpa [e] using h0) w0
  injection K0 with e0 _
  subst e0
  obtain ⟨n1, y1, h1, w1⟩ := hf 1 _ rfl
  obtain ⟨a1, K1, I1⟩ := (opens_int Try.underlying3) n1 [v1] y1 (by have e : Try.prog.cellsOf 3 = 1 := (by kernel_rfl); simpa [e] using h1) w1
  injection K1 with e1 _
  subst e1
  obtain ⟨n2, y2, h2, w2⟩ := hf 2 _ rfl
  obtain ⟨a2, K2, I2⟩ := (opens_int Try.underlying3) n2 [v2] y2 (by have e : Try.prog.cellsOf 3 = 1 := (by kernel_rfl); simpa [e] using h2) w2
  injection K2 with e2 _
  subst e2
  obtain ⟨n3, y3, h3, w3⟩ := hf 3 _ rfl
  obtain ⟨a3, K3, I3⟩ := (opens_int Try.underlying3) n3 [v3] y3 (by have e : Try.prog.cellsOf 3 = 1 := (by kernel_rfl); simpa [e] using h3) w3
  injection K3 with e3 _
  subst e3
  exact ⟨⟨a0, a1, a2, a3⟩, k33_mk W ⟨a0, a1, a2, a3⟩, I0, I1, I2, I3⟩
theorem opens_T24 {H : Type} {enc : TypeId × Value → H} {W : World} : Opens enc Try.prog W 24 k24 inv24 := by
  intro fuel cs x h hw
  obtain ⟨hl, hf⟩ := trod_fields Try.underlying24 h hw
  have hl' : cs.length = 2 := hl.trans (by kernel_rfl)
  obtain ⟨v0, v1, rfl⟩ : ∃ v0 v1, cs = [v0, v1] := by
    clear hf h hw
    match cs, hl' with
    | [v0, v1], _ => exact ⟨v0, v1, rfl⟩
  obtain ⟨n0, y0, h0, w0⟩ := hf 0 _ rfl
  obtain ⟨a0, K0, I0⟩ := (opens_int Try.underlying3) n0 [v0] y0 (by have e : Try.prog.cellsOf 3 = 1 := (by kernel_rfl); simpa [e] using h0) w0
  injection K0 with e0 _
  subst e0
  obtain ⟨n1, y1, h1, w1⟩ := hf 1 _ rfl
  obtain ⟨a1, K1, I1⟩ := (opens_slice (B := 32) Try.underlying22 opens_T33 (by kernel_rfl) (by kernel_rfl)) n1 [v1] y1 (by have e : Try.prog.cellsOf 22 = 1 := (by kernel_rfl); simpa [e] using h1) w1
  obtain ⟨A1, c1, e1, L1, G1⟩ := K1
  injection e1 with e1 _
  subst e1
  exact ⟨⟨a0, a1⟩, k24_mk W ⟨a0, a1⟩ L1 G1, I0, I1⟩
theorem opens_T27 {H : Type} {enc : TypeId × Value → H} {W : World} : Opens enc Try.prog W 27 k27 inv27 := by
  intro fuel cs x h hw
  obtain ⟨hl, hf⟩ := trod_fields Try.underlying27 h hw
  have hl' : cs.length = 2 := hl.trans (by kernel_rfl)
  obtain ⟨v0, v1, rfl⟩ : ∃ v0 v1, cs = [v0, v1] := by
    clear hf h hw
    match cs, hl' with
    | [v0, v1], _ => exact ⟨v0, v1, rfl⟩
  obtain ⟨n0, y0, h0, w0⟩ := hf 0 _ rfl
  obtain ⟨a0, K0, I0⟩ := (opens_int Try.underlying3) n0 [v0] y0 (by have e : Try.prog.cellsOf 3 = 1 := (by kernel_rfl); simpa [e] using h0) w0
  injection K0 with e0 _
  subst e0
  obtain ⟨n1, y1, h1, w1⟩ := hf 1 _ rfl
  obtain ⟨a1, K1, I1⟩ := (opens_slice (B := 8) Try.underlying25 (opens_int Try.underlying3) (by kernel_rfl) (by kernel_rfl)) n1 [v1] y1 (by have e : Try.prog.cellsOf 25 = 1 := (by kernel_rfl); simpa [e] using h1) w1
  obtain ⟨A1, c1, e1, L1, G1⟩ := K1
  injection e1 with e1 _
  subst e1
  exact ⟨⟨a0, a1⟩, k27_mk W ⟨a0, a1⟩ L1 G1, I0, I1⟩
set_option maxRecDepth 100000 in
theorem lifted (os : Os) (started : os.Started) (H : Type) (enc : TypeId × Value → H) :
    ReturnsInHanded {} Try.checked os 6 .any (Rows.counterRunsSpec.pre6 enc Try.prog Try.f6 Rows.counterRunsRow.domain false) (Rows.counterRunsSpec.post enc Try.prog Try.f6 false true false false) := by
  refine returnsInHanded_of_change_sized (C := Try.checked) own started (by kernel_rfl) Try.func6
    (ChangeSpec.witness6 (enc := enc) (C := Try.checked) false ⟨#[], #[.agg #[.int .i64 0, .slice none 0 0], .agg #[.int .i64 0, .slice none 0 0], .slice none 0 0, .int .i64 0], []⟩ 8 (by kernel_rfl) (by kernel_rfl) (by kernel_rfl) (by kernel_rfl)) ?_
  intro W base args ds gs before hval0 hW hcnd hsz0 _
  have hsz : (DataW.weightsEach Try.prog (Try.f6.params.toList ++ Rows.counterRunsSpec.plain.varTypes Try.prog) (ds ++ gs)).all (· ≤ reachBytes) = true := hsz0
  have hval : ∀ (j : Nat) t v, Try.f6.params[j]? = some t → args[j]? = some v → Value.okWide Try.prog W .any base t v := hval0
  have hW' := hW
  obtain ⟨p, q, hA0, hV, rfl, hfz, hnd⟩ := hW
  have hA : DataW.TrodAll enc Try.prog W 0 (fun _ => true) true Try.f6.params.toList args.toList ds p := hA0
  rw [Try.params6] at hA hval hsz
  obtain ⟨v0, vs0, d0, ds0, p0, q0, hargs, rfl, rfl, h0, r0⟩ := trodAll_cons hA
  obtain ⟨v1, vs1, d1, ds1, p1, q1, rfl, rfl, rfl, h1, r1⟩ := trodAll_cons r0
  obtain ⟨v2, vs2, d2, ds2, p2, q2, rfl, rfl, rfl, h2, r2⟩ := trodAll_cons r1
  obtain ⟨v3, vs3, d3, ds3, p3, q3, rfl, rfl, rfl, h3, r3⟩ := trodAll_cons r2
  obtain ⟨rfl, rfl, rfl⟩ := trodAll_nil r3
  obtain rfl : args = #[v0, v1, v2, v3] := by cases args; simp_all
  obtain ⟨rfl, rfl⟩ := trodVars_none hV
  have k0 := h0
  have lt0 : ∀ x ∈ p0, x.block < W.heap.size := by obtain ⟨m, hm⟩ := k0; exact DataW.trod_lt m _ _ _ hm
  have wt0 : ∀ m ∈ d0.weights Try.prog 24, m ≤ reachBytes := fun m hm => by simpa using List.all_eq_true.1 hsz m (DataW.weights_mem_each (j := 0) (t := 24) rfl rfl m hm)
  obtain ⟨fuel0, hf0⟩ := h0
  obtain ⟨cs0, rfl, -⟩ := okWide_struct Try.underlying24 (hval 0 24 v0 rfl rfl)
  obtain ⟨x0, K0, I0⟩ := opens_T24 fuel0 _ _ hf0 wt0
  obtain ⟨A0_1, c0_1, e0, L0_1, G0_1⟩ := k24_open K0
  have e0' : cs0 = #[.int .i64 x0.f0, .slice A0_1 x0.f1.length c0_1] := by have := congrArg List.toArray e0; simpa [Value.cells] using this
  subst e0'
  clear e0 hf0
  obtain ⟨I0_0, I0_1⟩ := I0
  have k1 := h1
  have lt1 : ∀ x ∈ p1, x.block < W.heap.size := by obtain ⟨m, hm⟩ := k1; exact DataW.trod_lt m _ _ _ hm
  have wt1 : ∀ m ∈ d1.weights Try.prog 27, m ≤ reachBytes := fun m hm => by simpa using List.all_eq_true.1 hsz m (DataW.weights_mem_each (j := 1) (t := 27) rfl rfl m hm)
  obtain ⟨fuel1, hf1⟩ := h1
  obtain ⟨cs1, rfl, -⟩ := okWide_struct Try.underlying27 (hval 1 27 v1 rfl rfl)
  obtain ⟨x1, K1, I1⟩ := opens_T27 fuel1 _ _ hf1 wt1
  obtain ⟨A1_1, c1_1, e1, L1_1, G1_1⟩ := k27_open K1
  have e1' : cs1 = #[.int .i64 x1.f0, .slice A1_1 x1.f1.length c1_1] := by have := congrArg List.toArray e1; simpa [Value.cells] using this
  subst e1'
  clear e1 hf1
  obtain ⟨I1_0, I1_1⟩ := I1
  have k2 := h2
  have lt2 : ∀ x ∈ p2, x.block < W.heap.size := by obtain ⟨m, hm⟩ := k2; exact DataW.trod_lt m _ _ _ hm
  have wt2 : ∀ m ∈ d2.weights Try.prog 25, m ≤ reachBytes := fun m hm => by simpa using List.all_eq_true.1 hsz m (DataW.weights_mem_each (j := 2) (t := 25) rfl rfl m hm)
  obtain ⟨fuel2, hf2⟩ := h2
  obtain ⟨x2, len2, cap2, rfl⟩ := okWide_slice Try.underlying25 (hval 2 25 v2 rfl rfl)
  obtain ⟨l2, K2, I2⟩ := (opens_slice (B := 8) Try.underlying25 (opens_int Try.underlying3) (by kernel_rfl) (by kernel_rfl)) fuel2 _ _ hf2 wt2
  obtain ⟨A2, c2, e2, L2, G2⟩ := K2
  have e2' : (Value.slice x2 len2 cap2) = .slice A2 l2.length c2 := by simpa [Value.cells] using e2
  rw [e2'] at hW' k2 ⊢
  clear e2 e2' hf2
  obtain ⟨a3, rfl, rfl, rfl, w3⟩ := open_int Try.underlying3 (hval 3 3 v3 rfl rfl) h3
  clear hA0 hval0 hsz0 hsz
  obtain ⟨k_, hk_⟩ := Pure.CounterRuns x0.f0 x0.f1 x1.f0 x1.f1 l2 a3 I0_0 I0_1 I1_0 I1_1 I2 w3
  refine (standstilllaw06_CounterRuns.calls k_ x0.f0 A0_1 c0_1 x0.f1 x1.f0 A1_1 c1_1 x1.f1 A2 c2 l2 a3 true W G0_1 L0_1 G1_1 L1_1 G2 L2 hk_).mono fun e W' ⟨he, bel0⟩ => ?_
  have bel : Below W.heap.size W W' := bel0
  clear bel0
  subst he
  exact ⟨_, rfl, _, _, _, [], _, [], hW', trodAll_mk1 (shut_bool Try.underlying4 _), (trodAll_cons_mk (Below.trod laidOut (by kernel_rfl) (of_decide_eq_true (by kernel_rfl)) k0 bel lt0) (trodAll_cons_mk (Below.trod laidOut (by kernel_rfl) (of_decide_eq_true (by kernel_rfl)) k1 bel lt1) (trodAll_cons_mk (Below.trod laidOut (by kernel_rfl) (of_decide_eq_true (by kernel_rfl)) k2 bel lt2) (trodAll_cons_mk (shut_int Try.underlying3 w3) trodAll_mk0)))), rfl, bel.frame _, fun h => by cases h⟩
theorem over : Rows.counterRunsRow.holds Try.pinned (OpenSpec.ofChange Rows.counterRunsSpec) :=
  OpenClaim.holds_of_wide 6 Try.f6 rfl rfl rfl rfl rfl rfl rfl ⟨rfl, rfl, rfl, rfl, rfl⟩ rfl rfl rfl rfl rfl (by kernel_rfl) Try.func6 (by kernel_rfl)
    (of_decide_eq_true (by kernel_rfl)) (by unfold Func.isWrapper; first | (rw [if_pos (by decide +kernel)]; kernel_rfl) | (rw [if_neg (by decide +kernel)]; exact ⟨rfl, rfl⟩))
    (fun os started H enc _ => lifted os started H enc)
theorem proved : Rows.CounterRunsSaid := over
#print axioms proved
end Go.Proofs.Ytkekehpfkfadfaa.counterRuns
namespace Go.Proofs.Ytkekehpfkfadfaa
/-- The row, under a short name, for the claim. -/
theorem counterRuns_holds : Rows.CounterRunsSaid := counterRuns.proved
end Go.Proofs.Ytkekehpfkfadfaa
